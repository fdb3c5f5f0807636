/- Pb -/
import Derived.Test.YteoaojbmnibpcaaGreatDoorPa
import Derived.Lib.Join
import Derived.Lib.SplitLaws
import Derived.Test.YteoaojbmnibpcaaGreatDoorPq
import Derived.KernelRfl
namespace Go.Proofs.YteoaojbmnibpcaaGreatDoor
open Go Go.RowKit Go.Proofs.YteoaojbmnibpcaaGreatDoor.Abs
set_option linter.unusedSimpArgs false
set_option linter.unusedVariables false
def cmb(n:Xb)(xs:Xa):Xb:=
 if n=[61]then xs.getD 0 []++[32,61,32]++xs.getD 1 []
 else if xs=[]then n else n++[40]++Lib.join xs [44]++[41]
mutual
def jr:T->Xb
 |.mk n us=>cmb n (jo5 us)
def jo5:Xg->Xa
 | []=>[]
 |t::ts=>jr t::jo5 ts
end
theorem jgp:∀us:Xg,jo5 us=us.map jr
 | []=>rfl
 |t::ts=>by rw[jo5,jgp ts];rfl
theorem Zy(t:T):jr t=cmb t.name (t.args.map jr):=by
 cases t with
 |mk n us=>rw[jr,jgp];rfl
theorem ZC(sep:Xb)(c:Nat)(hs:sep.length<=c):∀(xs:Xa),(Lib.join xs sep).length<=(xs.map λx=>x.length+c).sum
 | []=>by rw[Lib.join_nil];exact Nat.zero_le _
 |x::r=>by
  have:∀r:Xa,(Lib.joinTail sep r).length<=(r.map λx=>x.length+c).sum:=by
   intro r;induction r with
   |nil=>simp[Lib.joinTail]
   |cons y r ih=>
    have:(Lib.joinTail sep (y::r)).length=sep.length+y.length+(Lib.joinTail sep r).length:=by simp[Lib.joinTail];omega
    rw[this,List.map_cons,List.sum_cons];omega
  rw[Lib.join_cons,List.length_append,List.map_cons,List.sum_cons];have:=this r;omega
theorem jbS:∀us:Xg,(∀u∈us,(jr u).length<=6*tsz u+5)->((us.map jr).map λx=>x.length+1).sum<=6*us.length+6*kM us
 | [],_=>by simp
 |u::us,h=>by
  have h1:=h u (by simp);have h2:=jbS us λv hv=>h v (by simp[hv]);simp only[List.map_cons,List.sum_cons,List.length_cons,kM];omega
theorem yZ:∀t:T,(jr t).length<=6*tsz t+5:=by
 refine T.ind λt ih=>?_;rw[Zy,kU];have hs:=jbS t.args ih;unfold cmb;split
 .rename_i hn;have hl:t.name.length=1:=by rw[hn];rfl
  have:∀us:Xg,(∀u∈us,(jr u).length<=6*tsz u+5)->((us.map jr).getD 0 []).length+((us.map jr).getD 1 []).length<=6*us.length+6*kM us:=by
   intro us h
   match us,h with
   | [],_=>simp
   | [a],h=>have:=h a (by simp);simp[kM];omega
   |a::b::r,h=>
    have h1:=h a (by simp);have h2:=h b (by simp);simp[kM];omega
  have:=this t.args ih;simp only[List.length_append,List.length_cons,List.length_nil];omega
 .split
  .omega
  .have h1:=ZC [44] 1 (Nat.le_refl _) (t.args.map jr);simp only[List.length_append,List.length_cons,List.length_nil];omega
theorem jdH(sep:Xb)(xs:Xa)(i:Nat)(h:i<xs.length):Lib.join (xs.take (i+1)) sep=if i=0 then xs[i]else Lib.join (xs.take i) sep++sep++xs[i]:=by
 cases xs with
 |nil=>simp at h
 |cons x r=>
  cases i with
  |zero=>simp[Lib.join_one]
  |succ i=>
   have hi:i<r.length:=by simpa using h
   rw[if_neg (by omega),List.take_succ_cons,List.take_succ_cons,Lib.join_cons,Lib.join_cons,Lib.joinTail_take_succ sep r i r[i] (List.getElem?_eq_getElem hi)];simp[List.append_assoc]
def jN(l:Lt):Xb:=
 if l.1 then jr l.2 else if l.2.name=[61]then jr (ym l.2)++[32,33,61,32]++jr (qe l.2)else[126]++jr l.2
def fmtC(c:kA):Xb:=if c=[]then[36,102,97,108,115,101]else Lib.join (c.map jN) [32,124,32]
def jwI(l:Xi):Xb:=if l=[]then[45]else Lib.join (l.map λn=>Lib.decDigits n.toNat) [44]
theorem jpb{xs:Xa}{sep:Xb}(h:xs≠ [])(hx:∀x∈xs,x≠ []):Lib.join xs sep≠ []:=by
 cases xs with
 |nil=>exact absurd rfl h
 |cons x r=>
  rw[Lib.join_cons];intro e;exact hx x (by simp) (List.append_eq_nil_iff.1 e).1
def jK(c:UInt8):Bool:=kV c || (upc c || decide ((c.toNat:Int)=95))
mutual
def rdT:Nat->Xb->Option (T×Xb)
 |0,_=>none
 |n+1,s=>if s.takeWhile jK=[]then none else
  match s.dropWhile jK with
  | []=>some (.mk (s.takeWhile jK) [],[])
  |c::q=>if c=40 then(rdA n q).map λp=>(.mk (s.takeWhile jK) p.1,p.2)else some (.mk (s.takeWhile jK) [],c::q)
def rdA:Nat->Xb->Option (Xg×Xb)
 |0,_=>none
 |n+1,s=>match rdT n s with
  |none=>none
  |some (_,[])=>none
  |some (u,c::q)=>if c=44 then(rdA n q).map λp=>(u::p.1,p.2)else if c=41 then some ([u],q)else none
end
theorem Zl(s:Xb):s.takeWhile jK++s.dropWhile jK=s:=List.takeWhile_append_dropWhile
theorem jp2{s:Xb} :¬s.takeWhile jK=[61]:=λe=>by
 have h:(61:UInt8)∈s.takeWhile jK:=by rw[e];simp
 have:=List.all_eq_true.1 (List.all_takeWhile (l:=s) (p:=jK)) _ h;revert this;decide
theorem yG{n:Xb}{us:Xg}(h:¬n=[61]):jr (.mk n us)=if us=[]then n else n++[40]++Lib.join (us.map jr) [44]++[41]:=by
 rw[Zy];unfold cmb;show(if n=[61]then _ else _)=_;rw[if_neg h];show(if us.map jr=[]then _ else _)=_;cases us with
 |nil=>rfl
 |cons u r=>rw[if_neg (by simp),if_neg (by simp)];rfl
theorem Qh:∀n,(∀s t r,rdT n s=some (t,r)->s=jr t++r/\tsz t+r.length<=s.length/\r.length<s.length)/\(∀s us r,rdA n s=some (us,r)->us≠ []/\s=Lib.join (us.map jr) [44]++[41]++r/\us.length+kM us+r.length<=s.length)
 |0=>⟨λs t r h=>(by rw[rdT]at h;cases h),λs t r h=>(by rw[rdA]at h;cases h)⟩
 |n+1=>by
  obtain⟨ih1,ih2⟩:=Qh n;refine⟨λs t r h=>?_,λs us r h=>?_⟩
  .rw [rdT]at h;have e:=Zl s;have h61:=jp2 (s:=s);generalize s.takeWhile jK=w at *;generalize s.dropWhile jK=d at *;have el:s.length=w.length+d.length:=by rw[<-e,List.length_append]
   split at h
   .cases h
   rename_i hw;have hwl:0<w.length:=by cases w with|nil=>exact absurd rfl hw|cons=>simp
   cases d with
   |nil=>
    cases h;rw[yG h61,if_pos rfl,zp];refine⟨e.symm,?_,?_⟩<;>simp only[List.length_nil,kM]at * <;>omega
   |cons c q=>
    simp only at h;split at h
    .rename_i hc;obtain⟨p,h1,h2⟩:=Option.map_eq_some_iff.1 h;cases h2;obtain⟨k1,k2,k3⟩:=ih2 q p.1 p.2 h1;rw[yG h61,if_neg k1,zp];simp only[List.length_cons]at el;refine⟨?_,by omega,by omega⟩;rw[<-e,hc,k2];simp only[List.append_assoc,List.cons_append,List.nil_append]
    .cases h;rw[yG h61,if_pos rfl,zp];refine⟨e.symm,?_,?_⟩<;>simp only[List.length_nil,List.length_cons,kM]at * <;>omega
  .rw [rdA]at h;cases h1:rdT n s with
   |none=>rw[h1]at h;cases h
   |some p=>
    obtain⟨u,d⟩:=p;rw[h1]at h;obtain⟨k1,k2,k3⟩:=ih1 s u d h1;cases d with
    |nil=>cases h
    |cons c q=>
     simp only at h;simp only[List.length_cons]at k2 k3;split at h
     .rename_i hc;obtain⟨p,h2,h3⟩:=Option.map_eq_some_iff.1 h;cases h3;obtain⟨us,r⟩:=p;obtain⟨j1,j2,j3⟩:=ih2 q us r h2;refine⟨List.cons_ne_nil _ _,?_,?_⟩
      .cases us with
       |nil=>exact absurd rfl j1
       |cons v vs=>
        rw[k1,hc,j2];simp only[List.map_cons,Lib.join_cons,Lib.joinTail,List.flatten_cons,List.append_assoc,List.cons_append,List.nil_append]
      .simp only[List.length_cons,kM];omega
     .split at h
      .rename_i hc;cases h;refine⟨List.cons_ne_nil _ _,?_,?_⟩
       .rw [k1,hc,List.map_cons,List.map_nil,Lib.join_one];simp
       .simp only[List.length_cons,List.length_nil,kM];omega
      .cases h
def jkw:Xb->Prop
 | []=>True
 |c::_=>jK c=false/\ ¬c=40
theorem jkz{w r:Xb}(hw:∀c∈w,jK c=true)(hr:r=[]\/ ∃c q,r=c::q/\jK c=false):(w++r).takeWhile jK=w/\(w++r).dropWhile jK=r:=by
 have h1:r.takeWhile jK=[]/\r.dropWhile jK=r:=by
  rcases hr with rfl|⟨c,q,rfl,hc⟩
  .exact ⟨rfl,rfl⟩
  .exact ⟨by rw[List.takeWhile_cons_of_neg (by rw[hc];decide)],by rw[List.dropWhile_cons_of_neg (by rw[hc];decide)]⟩
 exact⟨by rw[List.takeWhile_append_of_pos hw,h1.1,List.append_nil],by rw[List.dropWhile_append_of_pos hw,h1.2]⟩
theorem jcS{c:UInt8}(h:kV c=true):jK c=true:=by unfold jK;rw[h];rfl
theorem joa{c:UInt8}(h:jc0 c=true):jK c=true:=by
 unfold jc0 at h;unfold jK;rw[Bool.or_eq_true]at h;rcases h with h|h
 .rw [h];rfl
 .rw [h,Bool.or_true,Bool.or_true]
theorem jfv{t:T}(h:zy t=true):t.name≠ []/\(∀c∈t.name,jK c=true)/\t.name.length<=6:=by
 rw[zF]at h;cases hv:jE t.name with
 |true=>
  generalize t.name=n at *;cases n with
  |nil=>cases hv
  |cons c r=>
   unfold jE at hv;rw[Bool.and_eq_true,Bool.and_eq_true,decide_eq_true_eq]at hv;refine⟨List.cons_ne_nil _ _,λx hx=>?_,by have:=hv.2.2;simp only[List.length_cons];omega⟩;rcases List.mem_cons.1 hx with rfl|hx
   .unfold jK;rw[hv.1];simp
   .exact jcS (List.all_eq_true.1 hv.2.1 x hx)
 |false=>
  rw[hv,if_neg Bool.false_ne_true,Bool.and_eq_true]at h;have hs:=h.1;generalize t.name=n at *;cases n with
  |nil=>cases hs
  |cons c r=>
   unfold zW at hs;rw[Bool.and_eq_true,Bool.and_eq_true,Bool.and_eq_true,decide_eq_true_eq]at hs;refine⟨List.cons_ne_nil _ _,λx hx=>?_,by have:=hs.2.2.1;simp only[List.length_cons];omega⟩;rcases List.mem_cons.1 hx with rfl|hx
   .exact jcS (by unfold kV;rw[hs.1];rfl)
   .exact joa (List.all_eq_true.1 hs.2.1 x hx)
theorem jnk{t:T}(h:zy t=true):¬t.name=[61]:=λe=>by
 have:=(jfv h).2.1 61 (by rw[e];simp)
 revert this;decide
theorem jka{n:Xb}{us:Xg}(h:zy (.mk n us)=true):n≠ []/\(∀c∈n,jK c=true)/\ ¬n=[61]/\ ∀u∈us,zy u=true:=by
 obtain⟨h1,h2,_⟩:=jfv h;exact⟨h1,h2,jnk h,λu hu=>y7 h u hu⟩
theorem jki:∀n,(∀t r,zy t=true->jkw r->2*(jr t++r).length+1<=n->rdT n (jr t++r)=some (t,r))/\
  (∀us r,us≠ []->(∀u∈us,zy u=true)->2*(Lib.join (us.map jr) [44]++[41]++r).length+2<=n->rdA n (Lib.join (us.map jr) [44]++[41]++r)=some (us,r))
 |0=>⟨λt r _ _ h=>by omega,λus r _ _ h=>by omega⟩
 |n+1=>by
  obtain⟨ih1,ih2⟩:=jki n;refine⟨λt r hk hr hn=>?_,λus r hu hk hn=>?_⟩
  .obtain ⟨w,us⟩:=t;obtain⟨k1,k2,k3,k4⟩:=jka hk;rw[yG k3]at hn⊢;rw[rdT];cases us with
   |nil=>
    rw[if_pos rfl]at hn⊢;obtain⟨e1,e2⟩:=jkz k2 (r:=r) (by cases r with|nil=>exact Or.inl rfl|cons c q=>exact Or.inr ⟨c,q,rfl,hr.1⟩);rw[e1,e2,if_neg k1];cases r with
    |nil=>rfl
    |cons c q=>simp only;rw[if_neg hr.2]
   |cons u us=>
    have hc:¬(u::us=[]):=List.cons_ne_nil _ _;rw[if_neg hc]at hn⊢;have es:w++[40]++Lib.join ((u::us).map jr) [44]++[41]++r=w++(40::(Lib.join ((u::us).map jr) [44]++[41]++r)):=by simp only[List.append_assoc,List.cons_append,List.nil_append]
    obtain⟨e1,e2⟩:=jkz k2 (r:=40::(Lib.join ((u::us).map jr) [44]++[41]++r)) (Or.inr ⟨40,_,rfl,by decide⟩);have hl:0<w.length:=by cases w with|nil=>exact absurd rfl k1|cons=>simp
    rw[es]at hn⊢;rw[List.length_append,List.length_cons]at hn;rw[e1,e2,if_neg k1];simp only;rw[if_pos trivial,ih2 (u::us) r (by simp) k4 (by omega)];rfl
  .cases us with
   |nil=>exact absurd rfl hu
   |cons u us=>
    rw[rdA];cases us with
    |nil=>
     have es:Lib.join ([u].map jr) [44]++[41]++r=jr u++41::r:=by rw[List.map_cons,List.map_nil,Lib.join_one];simp
     rw[es]at hn⊢;rw[ih1 u (41::r) (hk u (by simp)) ⟨by decide,by decide⟩ (by omega)];simp only;rw[if_neg (by decide),if_pos trivial]
    |cons v vs=>
     have es:Lib.join ((u::v::vs).map jr) [44]++[41]++r=jr u++44::(Lib.join ((v::vs).map jr) [44]++[41]++r):=by
      simp only[List.map_cons,Lib.join_cons,Lib.joinTail,List.flatten_cons,List.append_assoc,List.cons_append,List.nil_append]
     rw[es]at hn⊢;rw[ih1 u (44::(Lib.join ((v::vs).map jr) [44]++[41]++r)) (hk u (by simp)) ⟨by decide,by decide⟩ (by omega)];simp only;rw[List.length_append,List.length_cons]at hn;rw[if_pos trivial,ih2 (v::vs) r (by simp) (λx hx=>hk x (by simp[hx])) (by omega)];rfl
theorem jfE:∀n,(∀s,2*s.length+1<=n->rdT (n+1) s=rdT n s)/\(∀s,2*s.length+2<=n->rdA (n+1) s=rdA n s)
 |0=>⟨λs h=>by omega,λs h=>by omega⟩
 |n+1=>by
  obtain⟨ih1,ih2⟩:=jfE n;refine⟨λs h=>?_,λs h=>?_⟩
  .rw [rdT,rdT];have e:=Zl s;generalize s.takeWhile jK=w at *;generalize s.dropWhile jK=d at *;have el:s.length=w.length+d.length:=by rw[<-e,List.length_append]
   by_cases hw:w=[]
   .rw [if_pos hw,if_pos hw]
   .have hl:0<w.length:=by cases w with|nil=>exact absurd rfl hw|cons=>simp
    rw[if_neg hw,if_neg hw];cases d with
    |nil=>rfl
    |cons c q=>
     simp only[List.length_cons]at el⊢;rw[ih2 q (by omega)]
  .rw [rdA,rdA,ih1 s (by omega)];cases h1:rdT n s with
   |none=>rfl
   |some p=>
    obtain⟨u,d⟩:=p;have:=((Qh n).1 s u d h1).2.2;cases d with
    |nil=>rfl
    |cons c q=>
     simp only[List.length_cons]at this⊢;rw[ih2 q (by omega)]
def rd(s:Xb):Option (T×Xb):=rdT (2*s.length+1) s
def ra(s:Xb):Option (Xg×Xb):=rdA (2*s.length+2) s
theorem jtF{n:Nat}{s:Xb}(h:2*s.length+1<=n):rdT n s=rd s:=by
 induction n with
 |zero=>omega
 |succ n ih=>
  by_cases e:n+1=2*s.length+1
  .rw [e];rfl
  .rw [(jfE n).1 s (by omega),ih (by omega)]
theorem jqP{n:Nat}{s:Xb}(h:2*s.length+2<=n):rdA n s=ra s:=by
 induction n with
 |zero=>omega
 |succ n ih=>
  by_cases e:n+1=2*s.length+2
  .rw [e];rfl
  .rw [(jfE n).2 s (by omega),ih (by omega)]
theorem jqS(s:Xb):rd s=if s.takeWhile jK=[]then none else
  match s.dropWhile jK with
  | []=>some (.mk (s.takeWhile jK) [],[])
  |c::q=>if c=40 then(ra q).map λp=>(.mk (s.takeWhile jK) p.1,p.2)else some (.mk (s.takeWhile jK) [],c::q):=by
 unfold rd;rw[rdT];have e:=Zl s;generalize s.takeWhile jK=w at *;generalize s.dropWhile jK=d at *;have el:s.length=w.length+d.length:=by rw[<-e,List.length_append]
 by_cases hw:w=[]
 .rw [if_pos hw,if_pos hw]
 .have hl:0<w.length:=by cases w with|nil=>exact absurd rfl hw|cons=>simp
  rw[if_neg hw,if_neg hw];cases d with
  |nil=>rfl
  |cons c q=>
   simp only[List.length_cons]at el⊢;rw[jqP (n:=2*s.length) (by omega)]
theorem jqQ(s:Xb):ra s=match rd s with
  |none=>none
  |some (_,[])=>none
  |some (u,c::q)=>if c=44 then(ra q).map λp=>(u::p.1,p.2)else if c=41 then some ([u],q)else none:=by
 unfold ra;rw[rdA,jtF (Nat.le_refl _)];cases h1:rd s with
 |none=>rfl
 |some p=>
  obtain⟨u,d⟩:=p;have:=((Qh _).1 s u d h1).2.2;cases d with
  |nil=>rfl
  |cons c q=>
   simp only[List.length_cons]at this⊢;rw[jqP (n:=2*s.length+1) (by omega)];rfl
theorem Zd{s:Xb}{t:T}{r:Xb}(h:rd s=some (t,r)):s=jr t++r/\tsz t+r.length<=s.length/\r.length<s.length:=(Qh _).1 s t r h
theorem jcB{t:T}{r:Xb}(h:zy t=true)(hr:jkw r):rd (jr t++r)=some (t,r):=(jki _).1 t r h hr (Nat.le_refl _)
theorem qW:∀{s sub:Xb}{i:Nat},Lib.index s sub=i-> ∃x y,s=x++sub++y/\x.length=i
 | [],sub,i,h=>by
  unfold Lib.index at h;cases sub with
  |nil=>exact⟨[],[],rfl,by have h:(0:Int)=i:=h;simp only[List.length_nil];omega⟩
  |cons a t=>simp at h
 |b::l,sub,i,h=>by
  unfold Lib.index at h;split at h
  .rename_i hp;obtain⟨y,hy⟩:=List.isPrefixOf_iff_prefix.1 hp;exact⟨[],y,by rw[List.nil_append,hy],by simp;omega⟩
  .split at h
   .omega
   .have:=Lib.index_ge l sub;obtain⟨x,y,e,el⟩:=qW (s:=l) (sub:=sub) (i:=i-1) (by rename_i hne;rw[beq_iff_eq]at hne;omega);rename_i hne;rw[beq_iff_eq]at hne;exact⟨b::x,y,by rw[e];rfl,by simp only[List.length_cons];omega⟩
theorem jkV{x y sub:Xb}{c:UInt8}{t:Xb}(hs:sub=c::t)(hx:¬c∈x):Lib.index (x++sub++y) sub=x.length:=by
 refine Lib.index_first (by simp) ?_ λj hj=>?_
 .unfold Lib.occAt;rw[List.append_assoc,List.drop_left];exact List.isPrefixOf_iff_prefix.2 ⟨y,rfl⟩
 .cases h:Lib.occAt (x++sub++y) sub j with
  |false=>rfl
  |true=>
   have:=Lib.occAt_head hs h;rw[List.append_assoc,List.getElem?_append_left hj]at this;exact absurd (List.mem_of_getElem? this) hx
theorem jdF{s sub:Xb}{c:UInt8}(hc:c∈sub)(hs:¬c∈s):Lib.index s sub = -1:=by
 refine Lib.index_none λj _=>?_;cases h:Lib.occAt s sub j with
 |false=>rfl
 |true=>
  unfold Lib.occAt at h;obtain⟨y,hy⟩:=List.isPrefixOf_iff_prefix.1 h;exact absurd (List.mem_of_mem_drop (by rw[<-hy];exact List.mem_append_left _ hc)) hs
def ptc(c:UInt8):Bool:=jK c || (c == 40 || (c == 41 || c == 44))
theorem jgE{xs:Xa}{sep:Xb}{c:UInt8}(h:c∈Lib.join xs sep):c∈sep\/ ∃x∈xs,c∈x:=by
 cases xs with
 |nil=>rw[Lib.join_nil]at h;cases h
 |cons x r=>
  rw[Lib.join_cons,List.mem_append]at h;rcases h with h|h
  .exact Or.inr ⟨x,by simp,h⟩
  .unfold Lib.joinTail at h;rw[List.mem_flatten]at h;obtain⟨z,hz,hc⟩:=h;obtain⟨u,hu,rfl⟩:=List.mem_map.1 hz;rcases List.mem_append.1 hc with hc|hc
   .exact Or.inl hc
   .exact Or.inr ⟨u,List.mem_cons_of_mem _ hu,hc⟩
theorem je4:∀t:T,zy t=true-> ∀c∈jr t,ptc c=true:=by
 refine T.ind λt ih hk c hc=>?_;obtain⟨w,us⟩:=t;obtain⟨k1,k2,k3,k4⟩:=jka hk;have hw:∀c∈w,ptc c=true:=λc hc=>by unfold ptc;rw[k2 c hc];rfl
 rw[yG k3]at hc;split at hc
 .exact hw c hc
 .rw [List.mem_append,List.mem_append,List.mem_append]at hc;rcases hc with((hc|hc)|hc)|hc
  .exact hw c hc
  .rw [List.mem_singleton.1 hc];rfl
  .rcases jgE hc with hc|⟨x,hx,hc⟩
   .rw [List.mem_singleton.1 hc];rfl
   .obtain ⟨u,hu,rfl⟩:=List.mem_map.1 hx;exact ih u hu (k4 u hu) c hc
  .rw [List.mem_singleton.1 hc];rfl
theorem yQ{t:T}(hk:zy t=true){c:UInt8}(hc:ptc c=false):¬c∈jr t:=λh=>by
 rw[je4 t hk c h]at hc;cases hc
theorem jbR:∀t:T,zy t=true->(jr t).length+1<=8*nodes t:=by
 refine T.ind λt ih hk=>?_;obtain⟨w,us⟩:=t;obtain⟨k1,k2,k3,k4⟩:=jka hk;have hl:=(jfv hk).2.2;have hl:w.length<=6:=hl;rw[yG k3,jM];show _<=8*(1+jA us);split
 .omega
 .have:∀us:Xg,(∀u∈us,(jr u).length+1<=8*nodes u)->((us.map jr).map λx=>x.length+1).sum<=8*jA us:=by
   intro us;induction us with
   |nil=>intro _;simp
   |cons u us ih=>
    intro h;have h1:=h u (by simp);have h2:=ih λv hv=>h v (by simp[hv]);simp only[List.map_cons,List.sum_cons,jA];omega
  have h1:=this us λu hu=>ih u hu (k4 u hu);have h2:=ZC [44] 1 (Nat.le_refl _) (us.map jr);have h3:(Lib.join (us.map jr) [44]).length+1<=((us.map jr).map λx=>x.length+1).sum:=by
   cases us with
   |nil=>rename_i h;exact absurd rfl h
   |cons u us=>
    have:=Lib.join_length (jr u) (us.map jr) [44];rw[List.map_cons,this];have:∀l:Xa,Lib.lens l+l.length=(l.map λx=>x.length+1).sum:=by
     intro l;induction l with
     |nil=>rfl
     |cons x l ih=>
      unfold Lib.lens at ih⊢;simp only[List.map_cons,List.sum_cons,List.length_cons]at *;omega
    have:=this (jr u::us.map jr);simp only[List.length_cons,List.length_nil]at *;omega
  simp only[List.length_append,List.length_cons,List.length_nil];omega
def whole(s:Xb):Option T:=match rd s with
 |some (t,[])=>if j9 t then some t else none
 |_=>none
theorem yB{t:T}(h:j9 t=true):zy t=true:=by
 unfold j9 at h;rw[Bool.and_eq_true]at h;exact h.2
theorem Jw{s:Xb}{t:T}(h:whole s=some t):s=jr t/\j9 t=true:=by
 unfold whole at h;split at h
 .rename_i u hu;split at h
  .cases h;have:=(Zd hu).1;rw[List.append_nil]at this;exact⟨this,by assumption⟩
  .cases h
 .cases h
theorem Ky{t:T}(h:j9 t=true):whole (jr t)=some t:=by
 have:=jcB (r:=[]) (yB h) trivial;rw[List.append_nil]at this;unfold whole;rw[this];simp only;rw[if_pos h]
def eqT(a b:T):T:= .mk [61] [a,b]
def QM(s sign:Xb):Option T:=if Lib.index s sign<0 then none else
 match whole (s.take (Lib.index s sign).toNat),whole (s.drop ((Lib.index s sign).toNat+sign.length))with
 |some a,some b=>if jR (eqT a b)then some (eqT a b)else none
 |_,_=>none
def YJ(s:Xb):Option T:=match QM s [32,61,32]with
 |some t=>some t
 |none=>match whole s with
  |some t=>if jR t then some t else none
  |none=>none
def zw(s:Xb):Option Lt:=match QM s [32,33,61,32]with
 |some t=>some (false,t)
 |none=>if s.head? = some 126 then
   match whole (s.drop 1)with
   |some t=>if jR t then some (false,t)else none
   |none=>none
  else(YJ s).map λt=>(true,t)
theorem jbJ{s sign:Xb}{t:T}(h:QM s sign=some t):∃a b,t=eqT a b/\s=jr a++sign++jr b/\jR t=true:=by
 unfold QM at h;split at h
 .cases h
 rename_i hi;obtain⟨x,y,e,el⟩:=qW (s:=s) (sub:=sign) (i:=(Lib.index s sign).toNat) (by omega);rw[<-el]at h;have e1:s.take x.length=x:=by rw[e,List.append_assoc,List.take_left]
 have e2:s.drop (x.length+sign.length)=y:=by rw[e,<-List.length_append,List.drop_left]
 rw[e1,e2]at h;split at h
 .rename_i a b ha hb;split at h
  .cases h;rename_i hat;exact⟨a,b,rfl,by rw[<-(Jw ha).1,<-(Jw hb).1];exact e,hat⟩
  .cases h
 .cases h
theorem YX(a b:T):jr (eqT a b)=jr a++[32,61,32]++jr b:=by
 rw[Zy];rfl
theorem qU(a b:T):jN (false,eqT a b)=jr a++[32,33,61,32]++jr b:=rfl
theorem qV{t:T}(h:¬t.name=[61]):jN (false,t)=126::jr t:=by
 unfold jN;rw[if_neg Bool.false_ne_true,if_neg h];rfl
theorem Yh{s:Xb}{l:Lt}(h:zw s=some l):jN l=s/\jR l.2=true:=by
 unfold zw at h;split at h
 .rename_i t ht;cases h;obtain⟨a,b,rfl,e,ha⟩:=jbJ ht;exact⟨by rw[qU,e],ha⟩
 .split at h
  .rename_i hs;split at h
   .rename_i t ht;split at h
    .rename_i hat;cases h;obtain⟨e,hv⟩:=Jw ht;refine⟨?_,hat⟩;rw[qV (jnk (yB hv)),<-e];cases s with
     |nil=>cases hs
     |cons c r=>cases hs;rfl
    .cases h
   .cases h
  .obtain ⟨t,h1,rfl⟩:=Option.map_eq_some_iff.1 h;unfold YJ at h1;split at h1
   .rename_i u hu;cases h1;obtain⟨a,b,rfl,e,ha⟩:=jbJ hu;exact⟨by show jr (eqT a b)=s;rw[YX,e],ha⟩
   .split at h1
    .rename_i u hu;split at h1
     .rename_i hat;cases h1;exact⟨(Jw hu).1.symm,hat⟩
     .cases h1
    .cases h1
theorem qQ{t:T}(h:jR t=true):(∃a b,t=eqT a b/\j9 a=true/\j9 b=true/\nodes t<=30)\/(¬t.name=[61]/\j9 t=true):=by
 unfold jR at h;by_cases he:t.name=[61]
 .rw [if_pos he]at h;unfold jeY kz at h;rw[Bool.and_eq_true,Bool.and_eq_true,Bool.and_eq_true,Bool.and_eq_true,decide_eq_true_eq,decide_eq_true_eq,decide_eq_true_eq]at h;obtain⟨h1,⟨h2,h3⟩,h4,h5⟩:=h;obtain⟨n,us⟩:=t
  match us,h1 with
  | [a,b],_=>
   cases he;rw[jM]at h2;rw[jbD]at h3;simp only[T.args,jA,ZQ]at h2 h3;have p1:=ZF a;have p2:=ZF b;refine Or.inl ⟨a,b,rfl,?_,?_,by rw[jM];simp only[T.args,jA];omega⟩
   .unfold j9 kz;rw[decide_eq_true (show nodes a<=30 by omega),decide_eq_true (show qx a<=8 by omega)];exact h4
   .unfold j9 kz;rw[decide_eq_true (show nodes b<=30 by omega),decide_eq_true (show qx b<=8 by omega)];exact h5
 .rw [if_neg he,Bool.and_eq_true]at h;exact Or.inr ⟨he,h.2⟩
theorem jdz{a b:T}{sign t:Xb}(hs:sign=32::t)(ha:j9 a=true)(hb:j9 b=true)(h:jR (eqT a b)=true):QM (jr a++sign++jr b) sign=some (eqT a b):=by
 unfold QM;rw[jkV hs (yQ (yB ha) (by decide)),if_neg (by omega),Int.toNat_natCast];have e1:(jr a++sign++jr b).take (jr a).length=jr a:=by rw[List.append_assoc,List.take_left]
 have e2:(jr a++sign++jr b).drop ((jr a).length+sign.length)=jr b:=by rw[<-List.length_append,List.drop_left]
 rw[e1,e2,Ky ha,Ky hb];simp only;rw[if_pos h]
theorem YS{s sign:Xb}{c:UInt8}(hc:c∈sign)(hs:¬c∈s):QM s sign=none:=by
 unfold QM;rw[jdF hc hs,if_pos (by decide)]
theorem jgt{s:Xb}{c:UInt8}(hs:¬c∈s):¬s.head? = some c:=λh=>hs (List.mem_of_mem_head? h)
theorem jdS{l:Lt}(h:jR l.2=true):zw (jN l)=some l:=by
 obtain⟨p,t⟩:=l;have h:jR t=true:=h;rcases qQ h with⟨a,b,rfl,ha,hb,_⟩|⟨hn,hv⟩
 .cases p with
  |false=>
   rw[qU];unfold zw;rw[jdz rfl ha hb h]
  |true=>
   show zw (jr (eqT a b))=_;have m:∀c,ptc c=false-> ¬c ∈ [32,61,32]-> ¬c∈jr a++[32,61,32]++jr b:=λc hc h1 h2=>by
    rw[List.mem_append,List.mem_append]at h2;rcases h2 with(h2|h2)|h2
    .exact yQ (yB ha) hc h2
    .exact h1 h2
    .exact yQ (yB hb) hc h2
   rw[YX];unfold zw YJ;rw[YS (c:=33) (by decide) (m 33 (by decide) (by decide))];simp only;rw[if_neg (jgt (m 126 (by decide) (by decide))),jdz rfl ha hb h];rfl
 .have hk:=yB hv;cases p with
  |false=>
   rw[qV hn];unfold zw;have h33:¬(33:UInt8)∈126::jr t:=λh=>by
    rcases List.mem_cons.1 h with h|h
    .revert h;decide
    .exact yQ hk (by decide) h
   rw[YS (c:=33) (by decide) h33];simp only;rw[if_pos (show(126::jr t).head? = some 126 from rfl),List.drop_one,List.tail_cons,Ky hv];simp only;rw[if_pos h]
  |true=>
   show zw (jr t)=_;unfold zw YJ;rw[YS (c:=33) (by decide) (yQ hk (by decide))];simp only;rw[if_neg (jgt (yQ hk (by decide))),YS (c:=61) (by decide) (yQ hk (by decide)),Ky hv];simp only;rw[if_pos h];rfl
def rdE(s:Xb):Option T:=match rd s with
 |some (t,[])=>some t
 |_=>none
def jdw(s:Xb):Option T:=match rd s with
 |none=>none
 |some (t,r)=>if[32,61,32].isPrefixOf r then(rdE (r.drop 3)).map λu=>eqT t u else if r=[]then some t else none
def QR(s:Xb):Option Lt:=if[126].isPrefixOf s then(jdw (s.drop 1)).map λt=>(false,t)else
 match rd s with
 |none=>none
 |some (t,r)=>if[32,33,61,32].isPrefixOf r then(rdE (r.drop 4)).map λu=>(false,eqT t u)else
  if[32,61,32].isPrefixOf r then(rdE (r.drop 3)).map λu=>(true,eqT t u)else if r=[]then some (true,t)else none
def Yg(s:Xb):Option Lt:=match QR s with
 |some l=>if jR l.2 && decide (jN l=s)then some l else none
 |none=>none
theorem jhi{t:T}(h:zy t=true):rdE (jr t)=some t:=by
 have:=jcB (r:=[]) h trivial;rw[List.append_nil]at this;unfold rdE;rw[this]
theorem jk2{l:Lt}(h:jR l.2=true):QR (jN l)=some l:=by
 obtain⟨p,t⟩:=l;have h:jR t=true:=h;have st:∀{c:UInt8}{s r:Xb},¬c∈s->s≠ []-> [c].isPrefixOf (s++r)=false:=λ{c s r} hc hs=>by
  cases s with
  |nil=>exact absurd rfl hs
  |cons d s=>
   have:¬c=d:=λe=>hc (by rw[e];simp)
   simp[List.isPrefixOf,this]
 have ne:∀{t:T},zy t=true->jr t≠ []:=λ{t} hk=>by
  obtain⟨w,us⟩:=t;obtain⟨k1,_,k3,_⟩:=jka hk;rw[yG k3];split
  .exact k1
  .simp
 rcases qQ h with⟨a,b,rfl,ha,hb,_⟩|⟨hn,hv⟩
 .have ka:=yB ha;have kb:=yB hb;cases p with
  |false=>
   rw[qU];unfold QR;rw[List.append_assoc,st (yQ ka (by decide)) (ne ka),if_neg Bool.false_ne_true,jcB ka (r:=[32,33,61,32]++jr b) (show jkw (32::_) from⟨by decide,by decide⟩)];show(rdE (jr b)).map _=_;rw[jhi kb];rfl
  |true=>
   show QR (jr (eqT a b))=_;rw[YX];unfold QR;rw[List.append_assoc,st (yQ ka (by decide)) (ne ka),if_neg Bool.false_ne_true,jcB ka (r:=[32,61,32]++jr b) (show jkw (32::_) from⟨by decide,by decide⟩)];show(rdE (jr b)).map _=_;rw[jhi kb];rfl
 .have hk:=yB hv;have e0:=jcB (r:=[]) hk trivial;rw[List.append_nil]at e0;cases p with
  |false=>
   rw[qV hn];unfold QR jdw;rw[if_pos (show[126].isPrefixOf (126::jr t)=true from rfl),List.drop_one,List.tail_cons,e0];rfl
  |true=>
   show QR (jr t)=_;unfold QR;have:=st (r:=[]) (yQ hk (c:=126) (by decide)) (ne hk);rw[List.append_nil]at this;rw[this,if_neg Bool.false_ne_true,e0];rfl
theorem jgR(s:Xb):Yg s=zw s:=by
 cases h:zw s with
 |some l=>
  obtain⟨h1,h2⟩:=Yh h;unfold Yg;rw[<-h1,jk2 h2];simp only;rw[if_pos (by rw[h2];simp)]
 |none=>
  unfold Yg;split
  .rename_i l hl;split
   .rename_i hc;rw[Bool.and_eq_true,decide_eq_true_eq]at hc;have:=jdS hc.1;rw[hc.2,h]at this;cases this
   .rfl
  .rfl
def Jn(f:Xb->Option Lt):Xa->Option kA
 | []=>some []
 |x::r=>match f x with
  |none=>none
  |some l=>(Jn f r).map λc=>l::c
def ku:Xb:=[32,124,32]
def je1:Xb:=[36,102,97,108,115,101]
def clF(f:Xb->Option Lt)(s:Xb):Option kA:=if s=je1 then some []else
 match Jn f (Lib.split s ku)with
 |some c=>if kh c then some c else none
 |none=>none
theorem jjE(s:Xb):clF Yg s=clF zw s:=by rw[show Yg=zw from funext jgR]
theorem Jf{s:Xb}(h:Lib.index s ku = -1):Lib.split s ku=[s]:=by
 unfold Lib.split;rw[Lib.count_miss h];rfl
theorem J0{s:Xb}{i:Nat}(h:Lib.index s ku=i):Lib.split s ku=s.take i::Lib.split (s.drop (i+3)) ku:=by
 unfold Lib.split;rw[Lib.count_hit (show ku≠ [] from List.cons_ne_nil _ _) h,Nat.add_comm,Lib.splitK,h,if_neg (by simp)];rfl
theorem jb0(x y:Xb)(r:Xa)(sep:Xb):Lib.join (x::y::r) sep=x++sep++Lib.join (y::r) sep:=by
 rw[Lib.join_cons,Lib.join_cons];simp only[Lib.joinTail,List.map_cons,List.flatten_cons,List.append_assoc]
theorem jhA(s:Xb):Lib.split s ku≠ []:=by
 unfold Lib.split;cases Lib.count s ku with
 |zero=>exact List.cons_ne_nil _ _
 |succ k=>unfold Lib.splitK;split<;>exact List.cons_ne_nil _ _
theorem jb2:∀(n:Nat)(s:Xb),s.length<=n->Lib.join (Lib.split s ku) ku=s
 |n,s,hn=>by
  rcases Int.lt_or_le (Lib.index s ku) 0 with h|h
  .have:=Lib.index_ge s ku;rw[Jf (by omega),Lib.join_one]
  .obtain ⟨i,hi⟩:∃i:Nat,Lib.index s ku=i:=⟨(Lib.index s ku).toNat,by omega⟩;obtain⟨x,y,e,el⟩:=qW hi;have hl:s.length=i+3+y.length:=by rw[e,List.length_append,List.length_append,el];rfl
   have e1:s.take i=x:=by rw[e,<-el,List.append_assoc,List.take_left]
   have e2:s.drop (i+3)=y:=by
    have:i+3=(x++ku).length:=by rw[List.length_append,el];rfl
    rw[e,this,List.drop_left]
   rw[J0 hi,e1,e2];cases n with
   |zero=>omega
   |succ n=>
    have ih:=jb2 n y (by omega);have hne:=jhA y;cases hsp:Lib.split y ku with
    |nil=>exact absurd hsp hne
    |cons z r=>rw[jb0,<-hsp,ih,e]
theorem jcT:∀xs:Xa,xs≠ []->(∀x∈xs,¬(124:UInt8)∈x)->Lib.split (Lib.join xs ku) ku=xs
 | [],h,_=>absurd rfl h
 | [x],_,h=>by
  rw[Lib.join_one,Jf (jdF (c:=124) (by decide) (h x (by simp)))]
 |x::y::r,_,h=>by
  have hx:=h x (by simp);have hi:Lib.index (x++ku++Lib.join (y::r) ku) ku=(x.length:Nat):=by
   refine Lib.index_first (by simp) ?_ λj hj=>?_
   .unfold Lib.occAt;rw[List.append_assoc,List.drop_left];exact List.isPrefixOf_iff_prefix.2 ⟨_,rfl⟩
   .cases ho:Lib.occAt (x++ku++Lib.join (y::r) ku) ku j with
    |false=>rfl
    |true=>
     have:=Lib.occAt_second rfl ho;by_cases hj2:j+1<x.length
     .rw [List.append_assoc,List.getElem?_append_left hj2]at this;exact absurd (List.mem_of_getElem? this) hx
     .have e:j+1=x.length:=by omega
      rw[e,List.append_assoc,List.getElem?_append_right (Nat.le_refl _),Nat.sub_self]at this;revert this;simp[ku]
  have ih:=jcT (y::r) (by simp) λz hz=>h z (by simp at hz⊢;exact Or.inr hz)
  rw[jb0,J0 hi];have e1:(x++ku++Lib.join (y::r) ku).take x.length=x:=by rw[List.append_assoc,List.take_left]
  have e2:(x++ku++Lib.join (y::r) ku).drop (x.length+3)=Lib.join (y::r) ku:=by
   have:x.length+3=(x++ku).length:=by rw[List.length_append];rfl
   rw[this,List.drop_left]
  rw[e1,e2,ih]
theorem Q9:∀{xs:Xa}{c:kA},Jn zw xs=some c->c.map jN=xs/\c.all (λl=>jR l.2)=true
 | [],c,h=>by cases h;exact⟨rfl,rfl⟩
 |x::r,c,h=>by
  unfold Jn at h;split at h
  .cases h
  .rename_i l hl;obtain⟨d,h1,rfl⟩:=Option.map_eq_some_iff.1 h;obtain⟨k1,k2⟩:=Q9 h1;obtain⟨j1,j2⟩:=Yh hl;exact⟨by rw[List.map_cons,j1,k1],by rw[List.all_cons,j2,k2];rfl⟩
theorem jbr:∀c:kA,c.all (λl=>jR l.2)=true->Jn zw (c.map jN)=some c
 | [],_=>rfl
 |l::c,h=>by
  rw[List.all_cons,Bool.and_eq_true]at h;rw[List.map_cons,Jn,jdS h.1];simp only;rw[jbr c h.2];rfl
theorem ZM{c:kA}(h:kh c=true):c.all (λl=>jR l.2)=true/\c.length<=8:=by
 unfold kh at h;rw[Bool.and_eq_true,Bool.and_eq_true,decide_eq_true_eq]at h;exact⟨h.1,h.2.2⟩
theorem jpn{l:Lt}(h:jR l.2=true){c:UInt8}(hc:c∈jN l):ptc c=true\/c=32\/c=33\/c=61\/c=126:=by
 obtain⟨p,t⟩:=l;have h:jR t=true:=h;rcases qQ h with⟨a,b,rfl,ha,hb,_⟩|⟨hn,hv⟩
 .have k1:=je4 a (yB ha) c;have k2:=je4 b (yB hb) c;cases p with
  |false=>
   rw[qU]at hc;simp only[List.mem_append,List.mem_cons,List.not_mem_nil,or_false]at hc;rcases hc with(hc|hc)|hc
   .exact Or.inl (k1 hc)
   .rcases hc with h|h|h|h<;>simp[h]
   .exact Or.inl (k2 hc)
  |true=>
   have hc:c∈jr (eqT a b):=hc;rw[YX]at hc;simp only[List.mem_append,List.mem_cons,List.not_mem_nil,or_false]at hc;rcases hc with(hc|hc)|hc
   .exact Or.inl (k1 hc)
   .rcases hc with h|h|h<;>simp[h]
   .exact Or.inl (k2 hc)
 .have k:=je4 t (yB hv) c;cases p with
  |false=>
   rw[qV hn]at hc;rcases List.mem_cons.1 hc with h|h
   .simp [h]
   .exact Or.inl (k h)
  |true=>exact Or.inl (k hc)
theorem jj2{l:Lt}(h:jR l.2=true){c:UInt8}(h0:ptc c=false)(h1:¬c=32/\ ¬c=33/\ ¬c=61/\ ¬c=126):¬c∈jN l:=λhc=>by
 rcases jpn h hc with h|h|h|h|h
 .rw [h]at h0;cases h0
 .exact h1.1 h
 .exact h1.2.1 h
 .exact h1.2.2.1 h
 .exact h1.2.2.2 h
theorem jm5{l:Lt}(h:jR l.2=true):(jN l).length<=240:=by
 obtain⟨p,t⟩:=l;have h:jR t=true:=h;rcases qQ h with⟨a,b,rfl,ha,hb,hz⟩|⟨hn,hv⟩
 .have k1:=jbR a (yB ha);have k2:=jbR b (yB hb);rw[jM]at hz;have hz:1+(nodes a+(nodes b+0))<=30:=hz;cases p with
  |false=>rw[qU];simp only[List.length_append,List.length_cons,List.length_nil];omega
  |true=>
   show(jr (eqT a b)).length<=240;rw[YX];simp only[List.length_append,List.length_cons,List.length_nil];omega
 .have k:=jbR t (yB hv);have hz:nodes t<=30:=by
   unfold j9 kz at hv;rw[Bool.and_eq_true,Bool.and_eq_true,decide_eq_true_eq]at hv;exact hv.1.1
  cases p with
  |false=>rw[qV hn,List.length_cons];omega
  |true=>show(jr t).length<=240;omega
theorem jjF{c:kA}(h:kh c=true):(fmtC c).length<=3000:=by
 obtain⟨h1,h2⟩:=ZM h;unfold fmtC;split
 .decide
 .have:=ZC [32,124,32] 3 (Nat.le_refl _) (c.map jN);have h3:∀d:kA,d.all (λl=>jR l.2)=true->((d.map jN).map λx=>x.length+3).sum<=243*d.length:=by
   intro d;induction d with
   |nil=>intro _;simp
   |cons l d ih=>
    intro h;rw[List.all_cons,Bool.and_eq_true]at h;have k1:=ih h.2;have k2:=jm5 h.1;simp only[List.map_cons,List.sum_cons,List.length_cons];omega
  have:=h3 c h1;omega
theorem jdy{s:Xb}{c:kA}(h:clF zw s=some c):kh c=true/\fmtC c=s:=by
 unfold clF at h;split at h
 .rename_i e;cases h;exact⟨by decide,by rw[e];rfl⟩
 .split at h
  .rename_i d hd;split at h
   .rename_i hv;cases h;obtain⟨k1,k2⟩:=Q9 hd;refine⟨hv,?_⟩;have hj:=jb2 s.length s (Nat.le_refl _);rw[<-k1]at hj;unfold fmtC;rw[if_neg (λe=>by rw[e]at k1;exact jhA s k1.symm)];exact hj
   .cases h
  .cases h
theorem jmy{c:kA}(h:kh c=true):clF zw (fmtC c)=some c:=by
 obtain⟨h1,h2⟩:=ZM h;have hm:∀l∈c,jR l.2=true:=λl hl=>List.all_eq_true.1 h1 l hl;by_cases h0:c=[]
 .subst h0;unfold clF;rw[if_pos (by rfl)]
 .have e:fmtC c=Lib.join (c.map jN) ku:=by unfold fmtC;rw[if_neg h0];rfl
  have hne:¬fmtC c=je1:=λe2=>by
   have m:(36:UInt8)∈fmtC c:=by rw[e2];decide
   rw[e]at m;rcases jgE m with m|⟨x,hx,m⟩
   .revert m;decide
   .obtain ⟨l,hl,rfl⟩:=List.mem_map.1 hx;exact jj2 (hm l hl) (by decide) (by decide) m
  unfold clF;rw[if_neg hne,e,jcT (c.map jN) (by simpa using h0) (λx hx=>by
   obtain⟨l,hl,rfl⟩:=List.mem_map.1 hx;exact jj2 (hm l hl) (by decide) (by decide)),jbr c h1]
  simp only;rw[if_pos h]
open Go Go.RowKit Go.ChangeShapes Go.Deep Go.Proofs.YteoaojbmnibpcaaGreatDoor.Abs
section
variable{P:Program}{t:Nat}{H:Type}{enc:TypeId×Value->H}{w:World}{base:Nat}{spare:Nat->Bool}{held:Bool}{fuel:Nat}{cs:Xh}{x:DataW H×List MemPlace}
end
abbrev clc(c:kA):Xd:=[.sl 3 (c.map kq)]
structure Stp where
 rule:Int
 par:Xi
 whr:Xi
 cls:kA
abbrev stc(s:Stp):Xd:=[vi s.rule,ints s.par,ints s.whr,.sl 3 (s.cls.map kq)]
abbrev stm(s:Stp):A:= .agg [vi s.rule,ints s.par,ints s.whr,.sl 3 (s.cls.map kq)]
structure Prf where
 ax:List kA
 st:List Stp
abbrev cls(l:List kA):A:= .sl 1 (l.map clc)
abbrev jpX(l:List Stp):A:= .sl 4 (l.map stc)
abbrev prc(p:Prf):Xd:=[cls p.ax,jpX p.st]
abbrev prm(p:Prf):A:= .agg [cls p.ax,jpX p.st]
structure Sch where
 prf:Prf
 act:Xi
 pas:Xi
 lost:Bool
abbrev scc(s:Sch):Xd:=[cls s.prf.ax,jpX s.prf.st,ints s.act,ints s.pas,vb s.lost]
abbrev scm(s:Sch):A:= .agg [cls s.prf.ax,jpX s.prf.st,ints s.act,ints s.pas,vb s.lost]
def iwf(l:Xi):Prop:=(∀x∈l,I64 x)/\l.length<=9223372036854775807
def cwf(c:kA):Prop:=(∀l∈c,twf l.2)/\c.length<=9223372036854775807
def swf(s:Stp):Prop:=I64 s.rule/\iwf s.par/\iwf s.whr/\cwf s.cls
def pwf(p:Prf):Prop:=((∀c∈p.ax,cwf c)/\p.ax.length<=9223372036854775807)/\((∀s∈p.st,swf s)/\p.st.length<=9223372036854775807)
def jwk(s:Sch):Prop:=pwf s.prf/\iwf s.act/\iwf s.pas
set_option maxHeartbeats 1000000
theorem QU(l:Lt):kR 3 (.elt (kq l) 0)=some (ltm l):=rfl
def lsz:kA->Nat
 | []=>0
 |l::c=>tsz l.2+lsz c
def csz(c:kA):Nat:=c.length+lsz c
def jsW:List kA->Nat
 | []=>0
 |c::l=>csz c+jsW l
def ssz(s:Stp):Nat:=s.par.length+s.whr.length+csz s.cls
def jtV:List Stp->Nat
 | []=>0
 |s::l=>ssz s+jtV l
def psz(p:Prf):Nat:=(p.ax.length+jsW p.ax)+(p.st.length+jtV p.st)
def jwj(s:Sch):Nat:=psz s.prf+s.act.length+s.pas.length
theorem jbM(c:Bool)(l:Xb):fin c (sv l,[])=some (sv l):=by cases c<;>rfl
theorem JE(b:Bool){x y:Xb}(h:x.length+y.length<=9223372036854775807):jx .add b (sv x) (sv y)=some (sv (x++y)):=by rw[QT,if_pos h]
theorem ldS(x:Xb):Km (.elt (cs x) 0)=some (sv x):=rfl
theorem jqN{n:Nat}(h:n<=4194304):ky n 16=true:=by
 unfold ky;exact decide_eq_true ⟨by omega,by omega⟩
theorem jmi(f:Xb)(l:Xa):zk (l.map cs) [[sv f]]=(l++[f]).map cs:=by rw[List.map_append];rfl
theorem jhE:∀l:Xa,Abs.strs (l.map cs)=some (l.map λx=>(⟨⟨x⟩⟩:ByteArray))
 | []=>rfl
 |x::l=>by
  show(Abs.strs (l.map cs)).map _=_;rw[jhE l];rfl
theorem jgC(l:Xa)(sep:Xb)(h1:l.length<=100000000)(h2:(Lib.join l sep).length<=100000000):G 51 [.sl 1 (l.map cs),sv sep]=some (sv (Lib.join l sep),[]):=by
 have:K.ext 51=some jjV:=rfl;rw[jqa this];have hm:(l.map λx=>(⟨⟨x⟩⟩:ByteArray)).map (·.data.toList)=l:=by rw[List.map_map];exact(List.map_congr_left λx _=>rfl).trans (List.map_id l)
 show(if 1=1 then(Abs.strs (l.map cs)).bind _ else none)=_;rw[if_pos rfl,jhE,Option.bind_some,hm,if_pos ⟨by rw[List.length_map];omega,by show(Lib.join l sep).length<=_;omega⟩]
theorem jkb{t:T}(h:zy t=true):¬t.name=[61]:=λe=>by
 rw[zF,e,show jE [61]=false from by decide,if_neg Bool.false_ne_true,show zW [61]=false from by decide,Bool.false_and]at h;cases h
def pre(n:Xb)(xs:Xa)(i:Nat):Xb:=if i=0 then n else n++[40]++Lib.join (xs.take i) [44]
theorem jnP(n:Xb)(xs:Xa)(i:Nat)(h:i<xs.length):pre n xs (i+1)=(if i=0 then n++[40]else pre n xs i++[44])++xs[i]:=by
 unfold pre;rw[if_neg (by omega),jdH [44] xs i h];by_cases h0:i=0
 .rw [if_pos h0,if_pos h0]
 .rw [if_neg h0,if_neg h0,if_neg h0];simp only[List.append_assoc]
theorem jhH(f:Xb->Nat)(xs:Xa)(i:Nat):((xs.take i).map f).sum<=(xs.map f).sum:=by
 have:(xs.map f).sum=((xs.take i).map f).sum+((xs.drop i).map f).sum:=by
  rw[<-List.sum_append,<-List.map_append,List.take_append_drop]
 omega
theorem jke(n:Xb)(xs:Xa)(i:Nat):(pre n xs i).length<=n.length+1+(xs.map λx=>x.length+1).sum:=by
 unfold pre;split
 .omega
 .have h1:=ZC [44] 1 (Nat.le_refl _) (xs.take i);have h2:=jhH (λx=>x.length+1) xs i;simp only[List.length_append,List.length_cons,List.length_nil];omega
theorem jjL(us:Xg):((us.map jr).map λx=>x.length+1).sum<=6*us.length+6*kM us:=jbS us λu _=>yZ u
theorem je5{t:T}(h:¬t.name=[61]):jr t=if t.args.length=0 then t.name else pre t.name (t.args.map jr) t.args.length++[41]:=by
 rw[Zy];unfold cmb pre;rw[if_neg h];cases ht:t.args with
 |nil=>rfl
 |cons u us=>
  rw[if_neg (by simp),if_neg (by simp),if_neg (by simp),List.take_of_length_le (by simp)]
theorem JU:∀t:T,zy t=true->tsz t<=1048576->G 99 [tm t]=some (sv (jr t),[]):=by
 refine T.ind λt ih hk hz=>?_;have hne:=jkb hk;have hs:=jjL t.args;rw[kU]at hz;have key:=upto (n:=t.args.length) (P:=λi=>jds (sv (pre t.name (t.args.map jr) i)) (vi (i:Nat)) (sv t.name) (zR t.args)=some (sv (jr t),[])) ?_ ?_ 0 (Nat.zero_le _)
 .simp only[Int.natCast_zero]at key;have key:jds (sv t.name) (vi 0) (sv t.name) (zR t.args)=some (sv (jr t),[]):=key;rw[g99];simp only[jk,hne,key]
 .have nlt:¬((t.args.length:Nat):Int)<((t.args.length:Nat):Int):=by omega
  rw[jqF,je5 hne];by_cases h0:t.args.length=0
  .rw [h0];have hg:¬(0:Int)<((0:Nat):Int):=by decide
   simp only[jk,nlt,h0,hg];rfl
  .have hg:(0:Int)<((t.args.length:Nat):Int):=by omega
   have hl:=jke t.name (t.args.map jr) t.args.length;have a1:=JE false (x:=pre t.name (t.args.map jr) t.args.length) (y:=[41]) (by simp only[List.length_cons,List.length_nil];omega);rw[if_neg h0];simp only[jk,nlt,hg,a1]
 .intro i hi ihi;have hlt:(i:Int)<((t.args.length:Nat):Int):=by omega
  have h5:=j6 hi (by show t.args.length<=9223372036854775807;omega)
  have hm:=List.getElem_mem hi;have e:=ih _ hm (y7 hk _ hm) (by have:=yw hm;omega);have x1:js 2 (zR t.args) (vi (i:Nat))=some (.elt (jl t.args[i]) 0):=jf hi;have hp:=jnP t.name (t.args.map jr) i (by rw[List.length_map];exact hi);have hl:=jke t.name (t.args.map jr) i;have hl2:=yZ t.args[i];have hl3:=yw hm;rw[List.getElem_map]at hp;rw[hp]at ihi;generalize t.args[i]=u at e x1 ihi hl2 hl3;rw[jqF];by_cases h0:i=0
  .subst h0;have a1:=JE false (x:=pre t.name (t.args.map jr) 0) (y:=[40]) (by simp only[List.length_cons,List.length_nil];omega);have a2:=JE false (x:=pre t.name (t.args.map jr) 0++[40]) (y:=jr u) (by simp only[List.length_append,List.length_cons,List.length_nil];omega);rw[if_pos rfl]at ihi;have ihi:jds (sv (pre t.name (t.args.map jr) 0++[40]++jr u)) (vi ((0+1:Nat):Int)) (sv t.name) (zR t.args)=some (sv (jr t),[]):=ihi;generalize pre t.name (t.args.map jr) 0=X at *;have z0:((0:Nat):Int)=0:=rfl;rw[z0]at hlt x1 h5⊢;simp only[jk,hlt,a1,x1,jp,e,a2,h5,ihi]
  .have h0':¬(i:Int)=0:=by omega
   have a1:=JE false (x:=pre t.name (t.args.map jr) i) (y:=[44]) (by simp only[List.length_cons,List.length_nil];omega)
   have a2:=JE false (x:=pre t.name (t.args.map jr) i++[44]) (y:=jr u) (by simp only[List.length_append,List.length_cons,List.length_nil];omega)
   rw[if_neg h0]at ihi;generalize pre t.name (t.args.map jr) i=X at *;simp only[jk,hlt,h0',a1,x1,jp,e,a2,h5,ihi]
theorem zZ:∀t:T,zy t=true->tsz t<=1048576->G 83 [tm t]=some (sv (jr t),[]):=by
 refine T.ind λt ih hk hz=>?_;have hne:=jkb hk;have hs:=jjL t.args;have hfl:=yZ t;rw[kU]at hz;have e0:=z7 t;rw[decide_eq_false hne]at e0;have key:=upto (n:=t.args.length) (P:=λi=>¬t.args.length=0->jju (zR t.args) (vi (t.args.length:Nat)) (vi (i:Nat)) (sv t.name) (zR t.args) (((t.args.take i).map jr).map cs)=some (sv (jr t),[])) ?_ ?_ 0 (Nat.zero_le _)
 .simp only[Int.natCast_zero,List.take_zero,List.map_nil]at key;rw[g83];by_cases h0:t.args.length=0
  .have h0':((t.args.length:Nat):Int)=0:=by omega
   rw[je5 hne,if_pos h0];simp only[jk,e0,h0']
  .have h0':¬((t.args.length:Nat):Int)=0:=by omega
   simp only[jk,e0,h0',key h0]
 .intro h0;have nlt:¬((t.args.length:Nat):Int)<((t.args.length:Nat):Int):=by omega
  have hj:=ZC [44] 1 (Nat.le_refl _) (t.args.map jr);have j1:=jgC (t.args.map jr) [44] (by rw[List.length_map];omega) (by omega);have a1:=JE false (x:=t.name) (y:=[40]) (by simp only[List.length_cons,List.length_nil];omega);have a2:=JE false (x:=t.name++[40]) (y:=Lib.join (t.args.map jr) [44]) (by simp only[List.length_append,List.length_cons,List.length_nil];omega);have a3:=JE false (x:=t.name++[40]++Lib.join (t.args.map jr) [44]) (y:=[41]) (by simp only[List.length_append,List.length_cons,List.length_nil];omega);have hf:jr t=t.name++[40]++Lib.join (t.args.map jr) [44]++[41]:=by
   rw[je5 hne,if_neg h0];unfold pre;rw[if_neg h0,List.take_of_length_le (by simp)]
  rw[hf,List.take_length,jqB];generalize t.args.map jr=xs at *;simp only[jk,nlt,a1,j1,jbM,a2,a3]
 .intro i hi ihi h0;have hlt:(i:Int)<((t.args.length:Nat):Int):=by omega
  have h5:=j6 hi (by show t.args.length<=9223372036854775807;omega)
  have hm:=List.getElem_mem hi;have e:=ih _ hm (y7 hk _ hm) (by have:=yw hm;omega);have x1:js 2 (zR t.args) (vi (i:Nat))=some (.elt (jl t.args[i]) 0):=jf hi;have f1:ky ((((t.args.take i).map jr).map cs).length+1) 16=true:=jqN (by rw[List.length_map,List.length_map,List.length_take];omega);have ihi:=ihi h0;rw[List.take_succ_eq_append_getElem hi,List.map_append,List.map_cons,List.map_nil,<-jmi]at ihi;generalize t.args[i]=u at e x1 ihi;generalize ((t.args.take i).map jr).map cs=R at *;rw[jqB];simp only[jk,hlt,x1,jp,e,f1,h5,ihi]
theorem jo6{t:T}(hn:t.name=[61])(hl:t.args.length=2):jr t=jr (ym t)++[32,61,32]++jr (qe t):=by
 rw[Zy,KO hl];unfold cmb;rw[if_pos hn];rfl
theorem YO{t:T}(h:Bx t)(hn:nodes t<=30):tsz t<=300:=by have:=h.tsz;omega
theorem jf6{t:T}(hl:t.args.length=2)(hz:tsz t<=300):tsz (ym t)<=300/\tsz (qe t)<=300:=by
 rw[kU,KO hl]at hz;simp only[kM]at hz;omega
theorem jij{t:T}(hb:Bx t)(hz:tsz t<=300):G 99 [tm t]=some (sv (jr t),[])/\G 83 [tm t]=some (sv (jr t),[]):=by
 rcases hb with⟨hn,hl,hk⟩|⟨hs,hk⟩
 .obtain ⟨z0,z1⟩:=jf6 hl hz;have k0:zy (ym t)=true:=hk _ (by rw[KO hl];simp);have k1:zy (qe t)=true:=hk _ (by rw[KO hl];simp);have s0:=JU _ k0 (by omega);have s1:=JU _ k1 (by omega);have i0:=zZ _ k0 (by omega);have i1:=zZ _ k1 (by omega);have l0:=yZ (ym t);have l1:=yZ (qe t);have a1:=JE false (x:=jr (ym t)) (y:=[32,61,32]) (by simp only[List.length_cons,List.length_nil];omega);have a2:=JE false (x:=jr (ym t)++[32,61,32]) (y:=jr (qe t)) (by simp only[List.length_append,List.length_cons,List.length_nil];omega);have x0:js 2 (zR t.args) (vi 0)=some (.elt (jl (ym t)) 0):=by rw[KO hl];exact jf (xs:=[ym t,qe t]) (i:=0) (by simp)
  have x1:js 2 (zR t.args) (vi 1)=some (.elt (jl (qe t)) 0):=by rw[KO hl];exact jf (xs:=[ym t,qe t]) (i:=1) (by simp)
  have e0:=z7 t;rw[decide_eq_true hn]at e0;rw[jo6 hn hl];refine⟨?_,?_⟩
  .rw [g99];simp only[jk,hn,x0,x1,jp,s0,s1,a1,a2]
  .rw [g83];simp only[jk,e0,x0,x1,jp,i0,i1,a1,a2]
 .exact ⟨JU t hk (by omega),zZ t hk (by omega)⟩
theorem Zx{l:Lt}(hb:Bx l.2)(hz:tsz l.2<=300):G 57 [ltm l]=some (sv (jN l),[])/\G 50 [ltm l]=some (sv (jN l),[])/\(jN l).length<=4000/\jN l≠ []:=by
 obtain⟨s,t⟩:=l;have hb:Bx t:=hb;have hz:tsz t<=300:=hz;obtain⟨e1,e2⟩:=jij hb hz;have hl:=yZ t;have e0:=z7 t;have hnn:jr t≠ []:=by
  rw[Zy];unfold cmb;rcases hb with⟨hn,_,_⟩|⟨hs,hk⟩
  .rw [if_pos hn];simp
  .have hne:t.name≠ []:=λe=>by rw[e]at hs;revert hs;decide
   rw[if_neg (jkb hk)];split
   .exact hne
   .simp
 unfold jN;cases s with
 |true=>
  refine⟨?_,?_,by show(jr t).length<=4000;omega,hnn⟩
  .rw [g57];simp only[jk,e1]
  .rw [g50];simp only[jk,e2]
 |false=>
  by_cases hn:t.name=[61]
  .obtain ⟨hla,hk⟩:t.args.length=2/\ ∀u∈t.args,zy u=true:=by
    rcases hb with h|h
    .exact h.2
    .exact absurd hn (jkb h.2)
   obtain⟨z0,z1⟩:=jf6 hla hz;have k0:zy (ym t)=true:=hk _ (by rw[KO hla];simp);have k1:zy (qe t)=true:=hk _ (by rw[KO hla];simp);have s0:=JU _ k0 (by omega);have s1:=JU _ k1 (by omega);have i0:=zZ _ k0 (by omega);have i1:=zZ _ k1 (by omega);have l0:=yZ (ym t);have l1:=yZ (qe t);have a1:=JE false (x:=jr (ym t)) (y:=[32,33,61,32]) (by simp only[List.length_cons,List.length_nil];omega);have a2:=JE false (x:=jr (ym t)++[32,33,61,32]) (y:=jr (qe t)) (by simp only[List.length_append,List.length_cons,List.length_nil];omega);have x0:js 2 (zR t.args) (vi 0)=some (.elt (jl (ym t)) 0):=by rw[KO hla];exact jf (xs:=[ym t,qe t]) (i:=0) (by simp)
   have x1:js 2 (zR t.args) (vi 1)=some (.elt (jl (qe t)) 0):=by rw[KO hla];exact jf (xs:=[ym t,qe t]) (i:=1) (by simp)
   rw[decide_eq_true hn]at e0;have hf:(if(false,t).1=true then jr t else if(false,t).2.name=[61]then jr (ym (false,t).2)++[32,33,61,32]++jr (qe (false,t).2)else[126]++jr (false,t).2)=jr (ym t)++[32,33,61,32]++jr (qe t):=by
    rw[if_neg Bool.false_ne_true];exact if_pos hn
   rw[hf];refine⟨?_,?_,by simp only[List.length_append,List.length_cons,List.length_nil];omega,by simp⟩
   .rw [g57];simp only[jk,hn,x0,x1,jp,s0,s1,a1,a2]
   .rw [g50];simp only[jk,e0,x0,x1,jp,i0,i1,a1,a2]
  .have a1:=JE false (x:=[126]) (y:=jr t) (by simp only[List.length_cons,List.length_nil];omega)
   rw[decide_eq_false hn]at e0;have hf:(if(false,t).1=true then jr t else if(false,t).2.name=[61]then jr (ym (false,t).2)++[32,33,61,32]++jr (qe (false,t).2)else[126]++jr (false,t).2)=[126]++jr t:=by
    rw[if_neg Bool.false_ne_true];exact if_neg hn
   rw[hf];refine⟨?_,?_,by simp only[List.length_append,List.length_cons,List.length_nil];omega,by simp⟩
   .rw [g57];simp only[jk,hn,e1,a1]
   .rw [g50];simp only[jk,e0,e2,a1]
def jaV(sep:Xb)(xs:Xa)(i:Nat):Xb:=Lib.join (xs.take i) sep
theorem jlo(sep:Xb)(xs:Xa)(i:Nat)(h:i<xs.length):jaV sep xs (i+1)=(if i=0 then jaV sep xs i else jaV sep xs i++sep)++xs[i]:=by
 unfold jaV;rw[jdH sep xs i h];by_cases h0:i=0
 .subst h0;simp[Lib.join_nil]
 .rw [if_neg h0,if_neg h0]
theorem jcy(sep:Xb)(c k:Nat)(hs:sep.length<=c)(xs:Xa)(hx:∀x∈xs,x.length<=k)(i:Nat):(jaV sep xs i).length<=(k+c)*xs.length:=by
 have h1:=ZC sep c hs (xs.take i);have h2:=jhH (λx=>x.length+c) xs i;have h3:∀xs:Xa,(∀x∈xs,x.length<=k)->(xs.map λx=>x.length+c).sum<=(k+c)*xs.length:=by
  intro xs;induction xs with
  |nil=>intro _;simp
  |cons x xs ih=>
   intro h;have a:=h x (by simp);have b:=ih λy hy=>h y (by simp[hy]);rw[List.map_cons,List.sum_cons,List.length_cons,Nat.mul_succ];omega
 have:=h3 xs hx;unfold jaV;omega
theorem jgO{c:kA}(hc:CN c):G 25 [cm c]=some (sv (fmtC c),[]):=by
 have h8:=hc.1;have ok:∀l∈c,_:=λl hl=>Zx (hc.2 l hl).1 (YO (hc.2 l hl).1 (hc.2 l hl).2);have hpl:=λi=>jcy [32,124,32] 3 4000 (by decide) (c.map jN) (λx hx=>by obtain⟨l,hl,rfl⟩:=List.mem_map.1 hx;exact(ok l hl).2.2.1) i;rw[List.length_map]at hpl;have key:=upto (n:=c.length) (P:=λi=>jbn (sv (jaV [32,124,32] (c.map jN) i)) (vi (i:Nat)) (.sl 3 (c.map kq))=some (sv (fmtC c),[])) ?_ ?_ 0 (Nat.zero_le _)
 .simp only[Int.natCast_zero]at key;have key:jbn (sv []) (vi 0) (.sl 3 (c.map kq))=some (sv (fmtC c),[]):=key;rw[g25];simp only[jk,key]
 .have nlt:¬((c.length:Nat):Int)<((c.length:Nat):Int):=by omega
  rw[jqz];unfold jaV fmtC;rw[List.take_of_length_le (by simp)];by_cases h0:c=[]
  .subst h0;rw[if_pos rfl];simp only[jk,Lib.join_nil,List.map_nil]
  .have hne:Lib.join (c.map jN) [32,124,32]≠ []:=jpb (by simpa using h0) λx hx=>by obtain⟨l,hl,rfl⟩:=List.mem_map.1 hx;exact(ok l hl).2.2.2
   rw[if_neg h0];generalize Lib.join (c.map jN) [32,124,32]=X at *;simp only[jk,nlt,hne]
 .intro i hi ihi;have hlt:(i:Int)<((c.length:Nat):Int):=by omega
  have h5:=j6 hi (by show c.length<=9223372036854775807;omega)
  have hm:=List.getElem_mem hi;obtain⟨e,_,hl2,_⟩:=ok _ hm;have x1:js 3 (.sl 3 (c.map kq)) (vi (i:Nat))=some (.elt (kq c[i]) 0):=jf hi;have hp:=jlo [32,124,32] (c.map jN) i (by rw[List.length_map];exact hi);have hl:=hpl i;rw[List.getElem_map]at hp;rw[hp]at ihi;generalize c[i]=u at e x1 ihi hl2;rw[jqz];by_cases h0:i=0
  .subst h0;rw[if_pos rfl]at ihi;generalize jaV [32,124,32] (c.map jN) 0=X at *;have a2:=JE false (x:=X) (y:=jN u) (by omega);have ihi:jbn (sv (X++jN u)) (vi ((0+1:Nat):Int)) (.sl 3 (c.map kq))=some (sv (fmtC c),[]):=ihi;have z0:((0:Nat):Int)=0:=rfl;rw[z0]at hlt x1 h5⊢;simp only[jk,hlt,x1,QU,e,a2,h5,ihi]
  .have h0':(0:Int)<(i:Int):=by omega
   rw[if_neg h0]at ihi;generalize jaV [32,124,32] (c.map jN) i=X at *;have a1:=JE false (x:=X) (y:=[32,124,32]) (by simp only[List.length_cons,List.length_nil];omega);have a2:=JE false (x:=X++[32,124,32]) (y:=jN u) (by simp only[List.length_append,List.length_cons,List.length_nil];omega);simp only[jk,hlt,h0',a1,x1,QU,e,a2,h5,ihi]
theorem jaM{c:kA}(hc:CN c):G 20 [cm c]=some (sv (fmtC c),[]):=by
 have h8:=hc.1;have ok:∀l∈c,_:=λl hl=>Zx (hc.2 l hl).1 (YO (hc.2 l hl).1 (hc.2 l hl).2);have hpl:=jcy [32,124,32] 3 4000 (by decide) (c.map jN) (λx hx=>by obtain⟨l,hl,rfl⟩:=List.mem_map.1 hx;exact(ok l hl).2.2.1) c.length;rw[List.length_map]at hpl;unfold jaV at hpl;rw[List.take_of_length_le (by simp)]at hpl;have key:=upto (n:=c.length) (P:=λi=>jjp (.sl 3 (c.map kq)) (vi (c.length:Nat)) (vi (i:Nat)) (((c.take i).map jN).map cs)=some (sv (Lib.join (c.map jN) [32,124,32]),[])) ?_ ?_ 0 (Nat.zero_le _)
 .simp only[Int.natCast_zero,List.take_zero,List.map_nil]at key;rw[g20];unfold fmtC;by_cases h0:c=[]
  .subst h0;rw[if_pos rfl];simp only[jk,List.map_nil,Int.natCast_zero]
  .have h0':¬((c.length:Nat):Int)=0:=λe=>h0 (List.eq_nil_of_length_eq_zero (by omega));rw[if_neg h0];simp only[jk,h0',key]
 .have nlt:¬((c.length:Nat):Int)<((c.length:Nat):Int):=by omega
  have j1:=jgC (c.map jN) [32,124,32] (by rw[List.length_map];omega) (by omega)
  rw[List.take_length,jqw];generalize c.map jN=xs at *;simp only[jk,nlt,j1,jbM]
 .intro i hi ihi;have hlt:(i:Int)<((c.length:Nat):Int):=by omega
  have h5:=j6 hi (by show c.length<=9223372036854775807;omega)
  have hm:=List.getElem_mem hi;obtain⟨_,e,_,_⟩:=ok _ hm;have x1:js 3 (.sl 3 (c.map kq)) (vi (i:Nat))=some (.elt (kq c[i]) 0):=jf hi;have f1:ky ((((c.take i).map jN).map cs).length+1) 16=true:=jqN (by rw[List.length_map,List.length_map,List.length_take];omega);rw[List.take_succ_eq_append_getElem hi,List.map_append,List.map_cons,List.map_nil,<-jmi]at ihi;generalize c[i]=u at e x1 ihi;generalize ((c.take i).map jN).map cs=R at *;have e:G 50 [.agg [vb u.1,sv u.2.name,zR u.2.args]]=some (sv (jN u),[]):=e;rw[jqw];simp only[jk,hlt,x1,QU,e,f1,h5,ihi]
def listed(l:Xi):Bool:=l.all (KB 0 99) && decide (l.length<=12)
abbrev dg(n:Int):Xb:=Lib.decDigits n.toNat
def RL:Xa:=[[],[105,110,112,117,116],[114,101,115,111,108,118,101],[102,97,99,116,111,114],[115,117,112,101,114,112,111,115,101],[114,101,102,108,101,120,105,118,101],[114,101,119,114,105,116,101]]
theorem jmJ{c:kA}(hc:CN c):(fmtC c).length<=40000:=by
 have h8:=hc.1;have:=jcy [32,124,32] 3 4000 (by decide) (c.map jN) (λx hx=>by obtain⟨l,hl,rfl⟩:=List.mem_map.1 hx;exact(Zx (hc.2 l hl).1 (YO (hc.2 l hl).1 (hc.2 l hl).2)).2.2.1) c.length;unfold jaV at this;rw[List.take_of_length_le (by simp),List.length_map]at this;unfold fmtC;split
 .decide
 .omega
theorem jsb{s:Xb}{a b:Nat}(h1:a<=b)(h2:b<=s.length):jU (sv s) (some (vi a)) (some (vi b))=some (sv ((s.take b).drop a)):=by
 show(if _ then _ else _)=_;rw[if_pos ⟨by omega,by omega,by show(b:Int)<=((s.length:Nat):Int);omega⟩];rfl
theorem jlH{s:Xb}{b:Nat}(h2:b<=s.length):jU (sv s) none (some (vi b))=some (sv (s.take b)):=by
 show(if _ then _ else _)=_;rw[if_pos ⟨by omega,by omega,by show(b:Int)<=((s.length:Nat):Int);omega⟩];rfl
theorem jiY{s:Xb}{a:Nat}(h1:a<=s.length):jU (sv s) (some (vi a)) none=some (sv (s.drop a)):=by
 show(if _ then _ else _)=_;rw[if_pos ⟨by omega,by show(a:Int)<=((s.length:Nat):Int);omega,Int.le_refl _⟩];show some (sv ((s.take s.length).drop a))=_;rw[List.take_length]
theorem drop_at{s q:Xb}{i:Nat}{c:UInt8}(h:s.drop i=c::q):i<s.length/\s.drop (i+1)=q/\jT (sv s) (vi (i:Nat))=some (vy (c.toNat:Int)):=by
 have hl:i<s.length:=by
  rcases Nat.lt_or_ge i s.length with h'|h'
  .exact h'
  .rw [List.drop_eq_nil_of_le h']at h;cases h
 rw[jL hl]at h;obtain⟨h1,h2⟩:=List.cons.inj h;exact⟨hl,h2,by rw[yJ hl,h1]⟩
theorem jbo{i:Nat}(k:Nat)(h:i+k<=9223372036854775807):jx .add false (vi (i:Nat)) (vi (k:Nat))=some (vi ((i+k:Nat):Int)):=by
 rw[Ja,ko (by omega) (by omega),Int.natCast_add]
theorem jkA{c k:UInt8}(h:¬c=k):¬(c.toNat:Int)=(k.toNat:Int):=λe=>h (UInt8.toNat_inj.1 (Int.ofNat.inj e))
theorem QQ(c:UInt8):G 165 [vy (c.toNat:Int)]=some (vb (jK c),[]):=by
 have e1:=Yf c;unfold jK upc KB;rw[jvo];cases hsm:kV c<;>rw[hsm]at e1
 .by_cases h:65<=(c.toNat:Int)<;>by_cases h2:(c.toNat:Int)<=90<;>simp only[jk,e1,h,h2,Bool.true_and,Bool.false_and,Bool.and_false,Bool.true_or,Bool.false_or]
 .simp only[jk,e1,Bool.true_or]
def RdS(s:Xb)(a:Nat):Prop:=∃(t:T)(e:Int),G 139 [sv s,vi (a:Nat)]=some (.tup [tm t,vi e],[])/\((∃r,rd (s.drop a)=some (t,r)/\ ∃k:Nat,e=k/\k<=s.length/\s.drop k=r)\/(rd (s.drop a)=none/\e = -1))
def LpS(s:Xb)(a:Nat):Prop:=∀(w:Xb)(us:Xg),us.length<=a-> ∃(t:T)(e:Int),jeJ (sv s) (vi (a:Nat)) (sv []) (sv w) [] (us.map jl)=some (.tup [tm t,vi e],[])/\
 ((∃vs r,ra (s.drop (a+1))=some (vs,r)/\t = .mk w (us++vs)/\ ∃k:Nat,e=k/\k<=s.length/\s.drop k=r)\/(ra (s.drop (a+1))=none/\e = -1))
theorem jeA{s:Xb}(hs:s.length<=1048576)(a:A):∀(w r:Xb)(i:Nat),s.drop i=w++r->(∀c∈w,jK c=true)->QB (sv s) a (vi (i:Nat)) (sv []) []=QB (sv s) a (vi ((i+w.length:Nat):Int)) (sv []) []
 | [],r,i,_,_=>rfl
 |c::w,r,i,h,hw=>by
  obtain⟨hl,h2,hx⟩:=drop_at (c:=c) (q:=w++r) h;have hlt:((i:Nat):Int)<((s.length:Nat):Int):=by omega
  have e1:=QQ c;rw[hw c (by simp)]at e1;have h5:=j6 hl (by omega);have ih:=jeA hs a w r (i+1) h2 (λx hx=>hw x (by simp[hx]));rw[show i+1+w.length=i+(c::w).length by rw[List.length_cons];omega]at ih;rw[jb6];simp only[jk,hlt,hx,e1,h5];exact ih
theorem jqf(us:Xg)(t:T):zk (us.map jl) [[sv t.name,.sl 2 (t.args.map jl)]]=(us++[t]).map jl:=by
 rw[List.map_append,List.map_cons,List.map_nil,jI];rfl
theorem jhj{s:Xb}(hs:s.length<=1048576){a:Nat}(ha:a<=s.length)(ih:∀k,a<k->k<s.length->LpS s k):RdS s a:=by
 have e:=Zl (s.drop a);have hw:∀c∈(s.drop a).takeWhile jK,jK c=true:=λc hc=>List.all_eq_true.1 List.all_takeWhile c hc;have hr:∀c q,(s.drop a).dropWhile jK=c::q->jK c=false:=λc q h=>by
  have:=List.head?_dropWhile_not (p:=jK) (l:=s.drop a);rw[h]at this;simpa using this
 have hrd:=jqS (s.drop a);generalize (s.drop a).takeWhile jK=w at *;generalize (s.drop a).dropWhile jK=r at *;have hl:s.length=a+(w.length+r.length):=by
  have:=congrArg List.length e;rw[List.length_append,List.length_drop]at this;omega
 have h1:=jeA hs (vi (a:Nat)) w r a e.symm hw;have hk:s.drop (a+w.length)=r:=by rw[<-List.drop_drop,<-e,List.drop_left]
 have hsl:=jsb (s:=s) (a:=a) (b:=a+w.length) (by omega) (by omega);have hsw:(s.take (a+w.length)).drop a=w:=by
  rw[List.drop_take,<-e,show a+w.length-a=w.length by omega,List.take_left]
 rw[hsw]at hsl;have hg:G 139 [sv s,vi (a:Nat)]=QB (sv s) (vi (a:Nat)) (vi ((a+w.length:Nat):Int)) (sv []) []:=by rw[jvb,h1]
 unfold RdS;rw[hg,hrd];by_cases hw0:w=[]
 .rw [if_pos hw0];subst hw0;refine⟨.mk [] [],-1,?_,Or.inr ⟨rfl,rfl⟩⟩;show _=some (A.tup [A.agg [sv [],.sl 2 []],vi (-1)],[]);rw[jb6];simp only[List.length_nil,Nat.add_zero]at hsl hk⊢;cases r with
  |nil=>
   have nlt:¬((a:Nat):Int)<((s.length:Nat):Int):=by simp at hl;omega
   simp only[jk,nlt,hsl,List.map_nil]
  |cons c q=>
   obtain⟨k1,k2,k3⟩:=drop_at hk;have hlt:((a:Nat):Int)<((s.length:Nat):Int):=by omega
   have e1:=QQ c;rw[hr c q rfl]at e1;simp only[jk,hlt,k3,e1,hsl,List.map_nil]
 .have hwl:0<w.length:=by cases w with|nil=>exact absurd rfl hw0|cons=>simp
  have hne:¬((a+w.length:Nat):Int)=((a:Nat):Int):=by omega
  rw[if_neg hw0];cases r with
  |nil=>
   have hle:a+w.length=s.length:=by simp at hl;omega
   have nlt:¬((a+w.length:Nat):Int)<((s.length:Nat):Int):=by omega
   refine⟨.mk w [],((a+w.length:Nat):Int),?_,Or.inl ⟨[],rfl,a+w.length,rfl,by omega,hk⟩⟩;show _=some (A.tup [A.agg [sv w,.sl 2 []],vi ((a+w.length:Nat):Int)],[]);rw[hle]at nlt hsl hne⊢;rw[jb6];simp only[jk,nlt,hsl,hne,List.map_nil]
  |cons c q=>
   obtain⟨k1,k2,k3⟩:=drop_at hk;have hlt:((a+w.length:Nat):Int)<((s.length:Nat):Int):=by omega
   have hns:¬((a+w.length:Nat):Int)=((s.length:Nat):Int):=by omega
   have e1:=QQ c;rw[hr c q rfl]at e1;simp only;by_cases hc:c=40
   .rw [if_pos hc];have hc':(c.toNat:Int)=40:=by rw[hc];rfl
    obtain⟨t,e,g1,g2⟩:=ih (a+w.length) (by omega) k1 w [] (Nat.zero_le _);refine⟨t,e,?_,?_⟩
    .rw [hc']at e1 k3;rw[<-g1,jb6];rw[List.map_nil];generalize ((a+w.length:Nat):Int)=z at *;simp only[jk,hlt,k3,e1,hsl,hne,hns,List.map_nil]
    .rw [k2]at g2;rcases g2 with⟨vs,r,g3,g4,g5⟩|⟨g3,g4⟩
     .exact Or.inl ⟨r,by rw[g3,g4];rfl,g5⟩
     .exact Or.inr ⟨by rw[g3];rfl,g4⟩
   .rw [if_neg hc];have hc':¬(c.toNat:Int)=40:=jkA hc;refine⟨.mk w [],((a+w.length:Nat):Int),?_,Or.inl ⟨c::q,rfl,a+w.length,rfl,by omega,hk⟩⟩;show _=some (A.tup [A.agg [sv w,.sl 2 []],vi ((a+w.length:Nat):Int)],[]);rw[jb6];generalize ((a+w.length:Nat):Int)=z at *;simp only[jk,hlt,k3,e1,hsl,hne,hns,hc',List.map_nil]
theorem jm6{s:Xb}(hs:s.length<=1048576){a:Nat}(ha:a<s.length)(h1:RdS s (a+1))(ih:∀k,a<k->k<s.length->LpS s k):LpS s a:=by
 intro w us hu;obtain⟨t,e,g1,g2⟩:=h1;have h5:=j6 ha (by omega);have hra:=jqQ (s.drop (a+1));rcases g2 with⟨r,g3,k,rfl,k1,k2⟩|⟨g3,rfl⟩
 .rw [g3]at hra;have hnn:¬((k:Nat):Int)<0:=by omega
  have hak:a+1<k:=by
   have:=(Zd g3).2.2;rw[<-k2,List.length_drop,List.length_drop]at this;omega
  cases r with
  |nil=>
   refine⟨.mk w us,-1,?_,Or.inr ⟨hra,rfl⟩⟩;obtain rfl:k=s.length:=by
    have:=congrArg List.length k2;rw[List.length_drop]at this;simp at this;omega
   show _=some (A.tup [A.agg [sv w,.sl 2 (us.map jl)],vi (-1)],[]);rw[jb7];generalize us.map jl=R at *;simp only[jk,h5,g1,hnn]
  |cons c q=>
   obtain⟨j1,j2,j3⟩:=drop_at k2;have hks:¬((k:Nat):Int)=((s.length:Nat):Int):=by omega
   have hf:ky ((us.map jl).length+1) 40=true:=jlk (by rw[List.length_map];omega)
   have happ:=jqf us t;simp only at hra;by_cases h44:c=44
   .rw [if_pos h44]at hra;have hc:(c.toNat:Int)=44:=by rw[h44];rfl
    obtain⟨t',e',m1,m2⟩:=ih k (by omega) j1 w (us++[t]) (by rw[List.length_append,List.length_singleton];omega)
    rw[<-happ]at m1;refine⟨t',e',?_,?_⟩
    .rw [hc]at j3;rw[<-m1,jb7];generalize us.map jl=R at *;simp only[jk,h5,g1,hnn,hks,j3,hf,show ¬(44:Int)=41 by decide]
    .rw [j2]at m2;rcases m2 with⟨vs,r,m3,m4,m5⟩|⟨m3,m4⟩
     .exact Or.inl ⟨t::vs,r,by rw[hra,m3];rfl,by rw[m4,List.append_assoc];rfl,m5⟩
     .exact Or.inr ⟨by rw[hra,m3];rfl,m4⟩
   .rw [if_neg h44]at hra;have hc:¬(c.toNat:Int)=44:=jkA h44;by_cases h41:c=41
    .rw [if_pos h41]at hra;have hc':(c.toNat:Int)=41:=by rw[h41];rfl
     have h6:=j6 j1 (by omega);refine⟨.mk w (us++[t]),((k+1:Nat):Int),?_,Or.inl ⟨[t],q,hra,rfl,k+1,rfl,by omega,j2⟩⟩;show _=some (A.tup [A.agg [sv w,.sl 2 ((us++[t]).map jl)],_],[]);rw[hc']at j3;rw[jb7,<-happ];generalize us.map jl=R at *;simp only[jk,h5,g1,hnn,hks,j3,hf,h6,show ¬(41:Int)=44 by decide]
    .rw [if_neg h41]at hra;have hc':¬(c.toNat:Int)=41:=jkA h41;refine⟨.mk w us,-1,?_,Or.inr ⟨hra,rfl⟩⟩;show _=some (A.tup [A.agg [sv w,.sl 2 (us.map jl)],vi (-1)],[]);rw[jb7];generalize us.map jl=R at *;simp only[jk,h5,g1,hnn,hks,j3,hc,hc']
 .rw [g3]at hra;refine⟨.mk w us,-1,?_,Or.inr ⟨hra,rfl⟩⟩;have hn:(-1:Int)<0:=by decide
  show _=some (A.tup [A.agg [sv w,.sl 2 (us.map jl)],vi (-1)],[]);rw[jb7];generalize us.map jl=R at *;simp only[jk,h5,g1,hn]
theorem jfD{s:Xb}(hs:s.length<=1048576):∀(n a:Nat),a<=s.length->s.length-a<=n->RdS s a/\(a<s.length->LpS s a)
 |0,a,h1,h2=>⟨jhj hs h1 λk h3 h4=>by omega,λh=>by omega⟩
 |n+1,a,h1,h2=>by
  have ih:∀k,a<k->k<s.length->LpS s k:=λk h3 h4=>(jfD hs n k (by omega) (by omega)).2 h4;exact⟨jhj hs h1 ih,λh=>jm6 hs h (jfD hs n (a+1) (by omega) (by omega)).1 ih⟩
theorem jkY{s:Xb}(hs:s.length<=1048576){a:Nat}(ha:a<=s.length):RdS s a:=(jfD hs _ a ha (Nat.le_refl _)).1
def tO(o:Option T):T:=o.getD (.mk [] [])
theorem Kk{s:Xb}(hs:s.length<=1048576):G 103 [sv s]=some (.tup [tm (tO (whole s)),vb (whole s).isSome],[]):=by
 obtain⟨t,e,g1,g2⟩:=jkY hs (Nat.zero_le _);rw[List.drop_zero]at g2;have g1:G 139 [sv s,vi 0]=_:=g1;unfold whole;rw[juY];rcases g2 with⟨r,g3,k,rfl,k1,k2⟩|⟨g3,rfl⟩
 .rw [g3];have hz:=(Zd g3).2.1;cases r with
  |nil=>
   have hk:((k:Nat):Int)=((s.length:Nat):Int):=by
    have:=congrArg List.length k2;rw[List.length_drop]at this;simp at this;omega
   have e2:=jdP t (jc4 t (by omega)) (by omega);simp only;cases hv:j9 t<;>rw[hv]at e2
   .simp only[jk,g1,hk,e2];rfl
   .simp only[jk,g1,hk,e2];rfl
  |cons c q=>
   have hk:¬((k:Nat):Int)=((s.length:Nat):Int):=by have:=(drop_at k2).1;omega
   simp only[jk,g1,hk];rfl
 .rw [g3];have hk:¬(-1:Int)=((s.length:Nat):Int):=by omega
  simp only[jk,g1,hk];rfl
theorem jgP{s sign:Xb}(hs:s.length<=1048576)(h0:sign≠ [])(h4:sign.length<=9):∀(n i:Nat),s.length+1-i<=n->i<=s.length+1->Lib.NoOcc s sign i->jjt (sv s) (sv sign) (vi (i:Nat))=some (vi (Lib.index s sign),[]):=by
 have hp:0<sign.length:=by cases sign with|nil=>exact absurd rfl h0|cons=>simp
 intro n;induction n with
 |zero=>
  intro i hi hi2 hno;have a1:=jbo (i:=i) sign.length (by omega);have nle:¬((i+sign.length:Nat):Int)<=((s.length:Nat):Int):=by omega
  rw[Lib.index_past h0 hno (by omega),jj1];simp only[jk,a1,nle]
 |succ n ih=>
  intro i hi hi2 hno;have a1:=jbo (i:=i) sign.length (by omega);by_cases hle:i+sign.length<=s.length
  .have hle':((i+sign.length:Nat):Int)<=((s.length:Nat):Int):=by omega
   have e1:=jsb (s:=s) (a:=i) (b:=i+sign.length) (by omega) hle;have ho:=Lib.occAt_iff_take s sign i hle;rw[List.drop_take,show i+sign.length-i=sign.length by omega]at e1;by_cases he:(s.drop i).take sign.length=sign
   .rw [he]at ho e1;rw[Lib.index_hit hno (by omega) (by rw[ho];simp),jj1];simp only[jk,a1,hle',e1]
   .have ho2:Lib.occAt s sign i=false:=by rw[ho];simpa using he
    have h5:jx .add false (vi (i:Nat)) (vi 1)=some (vi ((i+1:Nat):Int)):=jbo 1 (by omega);have:=ih (i+1) (by omega) (by omega) (hno.succ ho2);rw[<-this,jj1];simp only[jk,a1,hle',e1,he,h5]
  .have nle:¬((i+sign.length:Nat):Int)<=((s.length:Nat):Int):=by omega
   rw[Lib.index_past h0 hno (by omega),jj1];simp only[jk,a1,nle]
theorem jdQ{s sign:Xb}(hs:s.length<=1048576)(h0:sign≠ [])(h4:sign.length<=9):G 61 [sv s,sv sign]=some (vi (Lib.index s sign),[]):=by
 rw[g61];exact jgP hs h0 h4 _ 0 (Nat.le_refl _) (by omega) (Lib.NoOcc.zero _ _)
theorem Qv{s:Xb}(hs:s.length<=1048576):tsz (tO (whole s))<=s.length:=by
 unfold whole;split
 .rename_i t h;split
  .exact Nat.le_trans (Nat.le_add_right _ _) (Zd h).2.1
  .exact Nat.zero_le _
 .exact Nat.zero_le _
theorem Z1{s sign:Xb}(hs:s.length<=1048576)(h3:3<=sign.length)(h4:sign.length<=9):G 102 [sv s,sv sign]=some (.tup [tm (tO (QM s sign)),vb (QM s sign).isSome],[]):=by
 have h0:sign≠ []:=λh=>by rw[h]at h3;simp at h3
 have e1:=jdQ hs h0 h4;have hge:=Lib.index_ge s sign;unfold QM;rw[juX];by_cases hi:Lib.index s sign<0
 .rw [if_pos hi];generalize Lib.index s sign=z at *;show _=some (A.tup [A.agg [sv [],.sl 2 []],vb false],[]);simp only[jk,e1,hi]
 .rw [if_neg hi];obtain⟨i,hi2⟩:∃i:Nat,Lib.index s sign=i:=⟨(Lib.index s sign).toNat,by omega⟩;obtain⟨x,y,e,el⟩:=qW hi2;have hl:s.length=i+sign.length+y.length:=by rw[e,List.length_append,List.length_append,el]
  rw[hi2]at e1 hi;rw[hi2,Int.toNat_natCast];have s1:=jlH (s:=s) (b:=i) (by omega);have s2:=jiY (s:=s) (a:=i+sign.length) (by omega);have a1:=jbo (i:=i) sign.length (by omega);have hl1:(s.take i).length<=1048576:=by rw[List.length_take];omega
  have hl2:(s.drop (i+sign.length)).length<=1048576:=by rw[List.length_drop];omega
  have w1:=Kk hl1;have w2:=Kk hl2;have z1:=Qv hl1;have z2:=Qv hl2;rw[List.length_take]at z1;rw[List.length_drop]at z2;generalize s.take i=p at *;generalize s.drop (i+sign.length)=q at *;cases hp:whole p with
  |none=>
   rw[hp]at w1;have w1:G 103 [sv p]=some (.tup [A.agg [sv [],.sl 2 []],vb false],[]):=w1;show _=some (A.tup [A.agg [sv [],.sl 2 []],vb false],[]);simp only[jk,e1,hi,s1,w1,a1,s2,w2]
  |some a=>
   rw[hp]at w1 z1;have w1:G 103 [sv p]=some (.tup [tm a,vb true],[]):=w1;cases hq:whole q with
   |none=>
    rw[hq]at w2;have w2:G 103 [sv q]=some (.tup [A.agg [sv [],.sl 2 []],vb false],[]):=w2;show _=some (A.tup [A.agg [sv [],.sl 2 []],vb false],[]);simp only[jk,e1,hi,s1,w1,a1,s2,w2]
   |some b=>
    rw[hq]at w2 z2;have w2:G 103 [sv q]=some (.tup [tm b,vb true],[]):=w2;have hz:tsz (eqT a b)<=1048576:=by
     show tsz (.mk [61] [a,b])<=_;rw[zp];have z1:tsz a<=_:=z1;have z2:tsz b<=_:=z2;simp only[List.length_cons,List.length_nil,kM];omega
    have e2:=ZD (eqT a b) (jc4 _ hz) hz;have e2:G 55 [.agg [sv [61],.sl 2 [[sv a.name,.sl 2 (a.args.map jl)],[sv b.name,.sl 2 (b.args.map jl)]]]]=some (vb (jR (eqT a b)),[]):=by
     rw[<-e2];show _=G _ [.agg [sv [61],.sl 2 [jl a,jl b]]];rw[jI a,jI b]
    simp only;cases hat:jR (eqT a b)<;>rw[hat]at e2
    .show _=some (A.tup [A.agg [sv [],.sl 2 []],vb false],[]);simp only[jk,e1,hi,s1,w1,a1,s2,w2,e2]
    .show _=some (A.tup [A.agg [sv [61],.sl 2 [jl a,jl b]],vb true],[]);rw[jI a,jI b];simp only[jk,e1,hi,s1,w1,a1,s2,w2,e2]
theorem jkX{s:Xb}(hs:s.length<=1048576):G 104 [sv s]=some (.tup [tm (tO (YJ s)),vb (YJ s).isSome],[]):=by
 have e1:=Z1 (sign:=[32,61,32]) hs (by decide) (by decide);have e2:=Kk hs;have z:=Qv hs;unfold YJ;rw[juZ];cases h1:QM s [32,61,32]with
 |some t=>
  rw[h1]at e1;have e1:G 102 [sv s,sv [32,61,32]]=some (.tup [tm t,vb true],[]):=e1;show _=some (A.tup [tm t,vb true],[]);simp only[jk,e1]
 |none=>
  rw[h1]at e1;have e1:G 102 [sv s,sv [32,61,32]]=some (.tup [A.agg [sv [],.sl 2 []],vb false],[]):=e1;simp only;cases h2:whole s with
  |none=>
   rw[h2]at e2;have e2:G 103 [sv s]=some (.tup [A.agg [sv [],.sl 2 []],vb false],[]):=e2;show _=some (A.tup [A.agg [sv [],.sl 2 []],vb false],[]);simp only[jk,e1,e2]
  |some t=>
   rw[h2]at e2 z;have z:tsz t<=_:=z;have e2:G 103 [sv s]=some (.tup [tm t,vb true],[]):=e2;have e3:=ZD t (jc4 _ (by omega)) (by omega);simp only;cases hat:jR t<;>rw[hat]at e3
   .show _=some (A.tup [A.agg [sv [],.sl 2 []],vb false],[]);simp only[jk,e1,e2,e3]
   .show _=some (A.tup [tm t,vb true],[]);simp only[jk,e1,e2,e3]
def lO(o:Option Lt):Lt:=o.getD (false,.mk [] [])
theorem JS{s:Xb}(hs:s.length<=1048576):G 62 [sv s]=some (.tup [ltm (lO (zw s)),vb (zw s).isSome],[]):=by
 have e1:=Z1 (sign:=[32,33,61,32]) hs (by decide) (by decide);unfold zw;rw[g62];cases h1:QM s [32,33,61,32]with
 |some t=>
  rw[h1]at e1;have e1:G 102 [sv s,sv [32,33,61,32]]=some (.tup [tm t,vb true],[]):=e1;show _=some (A.tup [A.agg [vb false,sv t.name,.sl 2 (t.args.map jl)],vb true],[]);simp only[jk,e1]
 |none=>
  rw[h1]at e1;have e1:G 102 [sv s,sv [32,33,61,32]]=some (.tup [A.agg [sv [],.sl 2 []],vb false],[]):=e1;simp only;have e3:=jkX hs;cases s with
  |nil=>
   rw[if_neg (by simp)];cases h3:YJ []with
   |none=>
    rw[h3]at e3;have e3:G 104 [sv []]=some (.tup [A.agg [sv [],.sl 2 []],vb false],[]):=e3;show _=some (A.tup [A.agg [vb false,sv [],.sl 2 []],vb false],[]);simp only[jk,e1,e3]
   |some t=>
    rw[h3]at e3;have e3:G 104 [sv []]=some (.tup [tm t,vb true],[]):=e3;show _=some (A.tup [A.agg [vb true,sv t.name,.sl 2 (t.args.map jl)],vb true],[]);simp only[jk,e1,e3]
  |cons c r=>
   have x0:=zh (c:=c) (l:=r);have hne:¬(c::r)=[]:=List.cons_ne_nil _ _;have e2:=Kk (s:=r) (by simp at hs;omega);have z:=Qv (s:=r) (by simp at hs;omega);have s1:jU (sv (c::r)) (some (vi 1)) none=some (sv r):=jiY (s:=c::r) (a:=1) (by simp);have hrl:r.length<=1048576:=by simp at hs;omega
   by_cases hc:c=126
   .have hc':(c.toNat:Int)=126:=by rw[hc];rfl
    rw[if_pos (by rw[hc];rfl),List.drop_one,List.tail_cons]
    rw[hc']at x0;generalize c::r=s at *;cases h2:whole r with
    |none=>
     rw[h2]at e2;have e2:G 103 [sv r]=some (.tup [A.agg [sv [],.sl 2 []],vb false],[]):=e2;show _=some (A.tup [A.agg [vb false,sv [],.sl 2 []],vb false],[]);simp only[jk,e1,hne,x0,s1,e2]
    |some t=>
     rw[h2]at e2 z;have z:tsz t<=_:=z;have e2:G 103 [sv r]=some (.tup [tm t,vb true],[]):=e2;have e4:=ZD t (jc4 _ (by omega)) (by omega);simp only;cases hat:jR t<;>rw[hat]at e4
     .show _=some (A.tup [A.agg [vb false,sv [],.sl 2 []],vb false],[]);simp only[jk,e1,hne,x0,s1,e2,e4]
     .show _=some (A.tup [A.agg [vb false,sv t.name,.sl 2 (t.args.map jl)],vb true],[]);simp only[jk,e1,hne,x0,s1,e2,e4]
   .have hc':¬(c.toNat:Int)=126:=jkA hc;rw[if_neg (by simpa using hc)];generalize c::r=s at *;cases h3:YJ s with
    |none=>
     rw[h3]at e3;have e3:G 104 [sv s]=some (.tup [A.agg [sv [],.sl 2 []],vb false],[]):=e3;show _=some (A.tup [A.agg [vb false,sv [],.sl 2 []],vb false],[]);simp only[jk,e1,hne,x0,hc',e3]
    |some t=>
     rw[h3]at e3;have e3:G 104 [sv s]=some (.tup [tm t,vb true],[]):=e3;show _=some (A.tup [A.agg [vb true,sv t.name,.sl 2 (t.args.map jl)],vb true],[]);simp only[jk,e1,hne,x0,hc',e3]
theorem jfj{s:Xb}{l:Lt}(h:zw s=some l):tsz l.2<=300:=by
 have:=(Yh h).2;obtain⟨p,t⟩:=l;have ha:jR t=true:=this;show tsz t<=300;rcases qQ ha with⟨a,b,rfl,ha,hb,hz⟩|⟨hn,hv⟩
 .have k1:=K6 a (yB ha);have k2:=K6 b (yB hb);rw[jM]at hz;have hz:1+(nodes a+(nodes b+0))<=30:=hz;show tsz (.mk [61] [a,b])<=300;rw[zp];simp only[List.length_cons,List.length_nil,kM];omega
 .have k:=K6 t (yB hv);unfold j9 kz at hv;rw[Bool.and_eq_true,Bool.and_eq_true,decide_eq_true_eq]at hv;have:=hv.1.1;omega
def cO(o:Option kA):kA:=o.getD []
theorem jqO{n:Nat}(h:n<=2000000):ky n 48=true:=by
 unfold ky;exact decide_eq_true ⟨by omega,by omega⟩
theorem jh3(c:kA)(l:Lt):zk (c.map kq) [[vb l.1,sv l.2.name,.sl 2 (l.2.args.map jl)]]=(c++[l]).map kq:=by
 rw[List.map_append];rfl
def pcs(s:Xb):Option kA:=if s=[]then some []else Jn zw (Lib.split s ku)
def ends(c:kA):Option kA->Option kA
 |some d=>if kh (c++d)then some (c++d)else none
 |none=>none
theorem jpF{s:Xb}{i:Nat}(h:Lib.index s ku=i)(h0:¬s=[]):pcs s=match zw (s.take i)with
  |none=>none
  |some l=>if s.drop (i+3)=[]then none else(pcs (s.drop (i+3))).map λc=>l::c:=by
 unfold pcs;rw[if_neg h0,J0 h,Jn];cases zw (s.take i)with
 |none=>rfl
 |some l=>
  simp only;by_cases hd:s.drop (i+3)=[]
  .rw [if_pos hd,hd];rfl
  .rw [if_neg hd,if_neg hd]
theorem jnN{s:Xb}(h:Lib.index s ku = -1)(h0:¬s=[]):pcs s=match zw s with
  |none=>none
  |some l=>some [l]:=by
 unfold pcs;rw[if_neg h0,Jf h,Jn];cases zw s<;>rfl
theorem jbG(c:kA)(l:Lt)(o:Option kA):ends c (o.map λd=>l::d)=ends (c++[l]) o:=by
 cases o with
 |none=>rfl
 |some d=>show(if kh (c++l::d)=true then _ else _)=(if kh (c++[l]++d)=true then _ else _);rw[List.append_assoc];rfl
theorem jiO:∀(n:Nat)(s:Xb)(c:kA),s.length<=n->s.length<=1048576->c.length<=1000000->(s≠ []->2*c.length+s.length<=1048576)->(∀l∈c,tsz l.2<=300)->(s=[]->c≠ [])->
  jdr (sv s) [] (c.map kq)=some (.tup [cm (cO (ends c (pcs s))),vb (ends c (pcs s)).isSome],[]):=by
 intro n;induction n with
 |zero=>
  intro s c hn hs hc hcs hz hne;have h0:s=[]:=List.eq_nil_of_length_eq_zero (by omega);subst h0;have hcl:¬((c.length:Nat):Int)=0:=by
   have:=hne rfl;cases c with
   |nil=>exact absurd rfl this
   |cons=>simp only[List.length_cons];omega
  have e1:=jdR c (by omega) (λl hl=>by have:=hz l hl;unfold Tz;omega)
  have e1:G 23 [.agg [.sl 3 (c.map kq)]]=some (vb (kh c),[]):=e1;have hr:ends c (pcs [])=if kh c then some c else none:=by
   show(if kh (c++[])=true then _ else _)=_;rw[List.append_nil]
  rw[hr,jca];cases hv:kh c<;>rw[hv]at e1
  .show _=some (A.tup [A.agg [.sl 3 []],vb false],[]);generalize hR:c.map kq=R at *;have hcl:¬((R.length:Nat):Int)=0:=by rw[<-hR,List.length_map];exact hcl
   simp only[jk,hcl,e1]
  .show _=some (A.tup [A.agg [.sl 3 (c.map kq)],vb true],[]);generalize hR:c.map kq=R at *;have hcl:¬((R.length:Nat):Int)=0:=by rw[<-hR,List.length_map];exact hcl
   simp only[jk,hcl,e1]
 |succ n ih=>
  intro s c hn hs hc hcs hz hne;by_cases h0:s=[]
  .exact ih s c (by rw[h0];simp) hs hc hcs hz hne
  .have hcs:=hcs h0;have e1:=jdQ (sign:=ku) hs (by decide) (by decide);have e1:G 61 [sv s,sv [32,124,32]]=_:=e1;have hf:ky ((c.map kq).length+1) 48=true:=jqO (by rw[List.length_map];omega);by_cases hi:Lib.index s ku<0
   .have hm:=Lib.index_ge s ku;rw[jnN (by omega) h0];have hi':¬0<=Lib.index s ku:=by omega
    have e2:=JS hs;generalize Lib.index s ku=z at *;cases h2:zw s with
    |none=>
     rw[h2]at e2;have e2:G 62 [sv s]=some (.tup [A.agg [vb false,sv [],.sl 2 []],vb false],[]):=e2;show _=some (A.tup [A.agg [.sl 3 []],vb false],[]);rw[jca];simp only[jk,h0,e1,hi',e2]
    |some l=>
     rw[h2]at e2;have e2:G 62 [sv s]=some (.tup [ltm l,vb true],[]):=e2;have:=ih [] (c++[l]) (by simp) (by simp) (by rw[List.length_append,List.length_singleton];omega) (λh=>absurd rfl h) (λx hx=>by
      rcases List.mem_append.1 hx with hx|hx
      .exact hz x hx
      .rw [List.mem_singleton.1 hx];exact jfj h2) (λ_=>by simp)
     rw[<-jh3]at this;show _=some (A.tup [cm (cO (ends c (some [l]))),vb (ends c (some [l])).isSome],[]);rw[show ends c (some [l])=ends (c++[l]) (pcs []) from jbG c l (some []),<-this,jca];generalize c.map kq=R at *;simp only[jk,h0,e1,hi',e2,hf]
   .obtain ⟨i,hi2⟩:∃i:Nat,Lib.index s ku=i:=⟨(Lib.index s ku).toNat,by omega⟩;obtain⟨x,y,e,el⟩:=qW hi2;have hl:s.length=i+3+y.length:=by rw[e,List.length_append,List.length_append,el];rfl
    rw[jpF hi2 h0];rw[hi2]at e1;have hi':0<=((i:Nat):Int):=by omega
    have a1:jx .add false (vi (i:Nat)) (vi 3)=some (vi ((i+3:Nat):Int)):=jbo 3 (by omega);have s1:=jlH (s:=s) (b:=i) (by omega);have s2:=jiY (s:=s) (a:=i+3) (by omega);have e2:=JS (s:=s.take i) (by rw[List.length_take];omega);have hdl:(s.drop (i+3)).length=s.length-(i+3):=List.length_drop;generalize s.take i=p at *;generalize s.drop (i+3)=q at *;by_cases hq:q=[]
    .have hr:(match zw p with|none=>none|some l=>if q=[]then none else(pcs q).map λc=>l::c)=none:=by
      cases zw p with
      |none=>rfl
      |some l=>exact if_pos hq
     rw[hr];show _=some (A.tup [A.agg [.sl 3 []],vb false],[]);rw[jca];simp only[jk,h0,e1,hi',a1,s1,s2,hq]
    .cases h2:zw p with
     |none=>
      rw[h2]at e2;have e2:G 62 [sv p]=some (.tup [A.agg [vb false,sv [],.sl 2 []],vb false],[]):=e2;show _=some (A.tup [A.agg [.sl 3 []],vb false],[]);rw[jca];simp only[jk,h0,e1,hi',a1,s1,s2,hq,e2]
     |some l=>
      rw[h2]at e2;have e2:G 62 [sv p]=some (.tup [ltm l,vb true],[]):=e2;have:=ih q (c++[l]) (by omega) (by omega) (by rw[List.length_append,List.length_singleton];omega) (λ_=>by rw[List.length_append,List.length_singleton];omega) (λx hx=>by
       rcases List.mem_append.1 hx with hx|hx
       .exact hz x hx
       .rw [List.mem_singleton.1 hx];exact jfj h2) (λh=>absurd h hq)
      rw[<-jh3]at this;simp only;rw[if_neg hq,jbG,<-this,jca];generalize c.map kq=R at *;simp only[jk,h0,e1,hi',a1,s1,s2,hq,e2,hf]
theorem jaS{s:Xb}(hs:s.length<=1048576):G 30 [sv s]=some (.tup [cm (cO (clF zw s)),vb (clF zw s).isSome],[]):=by
 unfold clF;rw[g30];by_cases h1:s=je1
 .have h1':s=[36,102,97,108,115,101]:=h1;rw[if_pos h1];show _=some (A.tup [A.agg [.sl 3 []],vb true],[]);simp only[jk,h1']
 .have h1':¬s=[36,102,97,108,115,101]:=h1;rw[if_neg h1];by_cases h0:s=[]
  .subst h0;show _=some (A.tup [A.agg [.sl 3 []],vb false],[]);have hn:¬([]:Xb)=[36,102,97,108,115,101]:=by decide
   have hl:jdr (sv []) [] []=some (A.tup [A.agg [.sl 3 []],vb false],[]):=by
    rw[jca];have:((([]:Xc).length:Nat):Int)=0:=rfl;simp only[jk,this,Int.natCast_zero]
   simp only[jk,hn,hl]
  .have:=jiO s.length s [] (Nat.le_refl _) hs (by simp) (λ_=>by simp;exact hs) (λl h=>by cases h) (λh=>absurd h h0)
   have hp:pcs s=Jn zw (Lib.split s ku):=if_neg h0;rw[hp,List.map_nil]at this;have he:∀o:Option kA,ends [] o=match o with|some c=>if kh c then some c else none|none=>none:=λo=>by cases o<;>rfl
   rw[he]at this;refine Eq.trans ?_ this;simp only[jk,h1']
theorem jfL{s:Xb}(hs:s.length<=1048576):G 12 [sv s]=some (.tup [cm (cO (if s.length<=4000 then clF zw s else none)),vb (if s.length<=4000 then clF zw s else none).isSome],[]):=by
 rw[g12];by_cases h:s.length<=4000
 .have h':¬(4000:Int)<((s.length:Nat):Int):=by omega
  have e1:=jaS hs;rw[if_pos h];simp only[jk,h',e1]
 .have h':(4000:Int)<((s.length:Nat):Int):=by omega
  rw[if_neg h];show _=some (A.tup [A.agg [.sl 3 []],vb false],[]);simp only[jk,h']
theorem je6(x t:Xb):G 163 [sv x,sv t]=some (vb (t.isPrefixOf x),[]):=by
 have e1:G 176 [sv x,sv t]=some (vb (t.isPrefixOf x),[]):=by
  rw[jvq];by_cases h:t.length<=x.length
  .have h':((t.length:Nat):Int)<=((x.length:Nat):Int):=by omega
   have s1:=jlH (s:=x) (b:=t.length) h;have e:decide (x.take t.length=t)=t.isPrefixOf x:=by
    have:=Lib.occAt_iff_take x t 0 (by omega);unfold Lib.occAt at this;rw[List.drop_zero]at this;rw[this];by_cases h:x.take t.length=t<;>simp[h]
   simp only[jk,h',s1,e]
  .have h':¬((t.length:Nat):Int)<=((x.length:Nat):Int):=by omega
   have e:t.isPrefixOf x=false:=by
    cases hp:t.isPrefixOf x with
    |false=>rfl
    |true=>exact absurd (List.isPrefixOf_iff_prefix.1 hp).length_le h
   simp only[jk,h',e]
 rw[jvm];simp only[jk,e1]
theorem jjP{s:Xb}(t:Xb){a:Nat}(ha:a<=s.length)(f:Bool):jeD (sv t) (sv s) (vi (a:Nat)) (vb f)=some (.top,[sv s,vi (a:Nat),vb f,vb (!f && t.isPrefixOf (s.drop a))]):=by
 have e1:=je6 (s.drop a) t;have s1:=jiY ha;rw[jrm];cases f<;>simp only[jk,s1,e1,Bool.true_and,Bool.false_and]
theorem qa{s t q:Xb}{a:Nat}(h:s.drop a=t++q)(hs:s.length<=1048576)(ha:a<=s.length):qo (sv t) (sv s) (vi (a:Nat)) (vb false)=some (.top,[sv s,vi ((a+t.length:Nat):Int),vb false,vb true])/\a+t.length<=s.length/\s.drop (a+t.length)=q:=by
 have hl:(s.drop a).length=t.length+q.length:=by rw[h,List.length_append]
 rw[List.length_drop]at hl;have e1:=jjP t ha false;rw[h,List.isPrefixOf_iff_prefix.2 ⟨q,rfl⟩]at e1;have e1:jeD (sv t) (sv s) (vi (a:Nat)) (vb false)=some (.top,[sv s,vi (a:Nat),vb false,vb true]):=e1;have a1:=jbo (i:=a) t.length (by omega);refine⟨?_,by omega,by rw[<-List.drop_drop,h,List.drop_left]⟩;rw[jqj];simp only[jk,e1,a1,List.getElem?_cons_zero,List.getElem?_cons_succ]
theorem yt{s t:Xb}{a:Nat}{f:Bool}(h:f=true\/t.isPrefixOf (s.drop a)=false)(ha:a<=s.length):qo (sv t) (sv s) (vi (a:Nat)) (vb f)=some (.top,[sv s,vi (a:Nat),vb f,vb false]):=by
 have e1:=jjP t ha f;have:(!f && t.isPrefixOf (s.drop a))=false:=by
  rcases h with h|h
  .rw [h];rfl
  .rw [h,Bool.and_false]
 rw[this]at e1;rw[jqj];simp only[jk,e1,List.getElem?_cons_zero,List.getElem?_cons_succ]
theorem jc8{s:Xb}(hs:s.length<=1048576)(x f:A):∀(w r:Xb)(i:Nat),s.drop i=w++r->(∀c∈w,jK c=true)->KL x (sv s) (vi (i:Nat)) f=KL x (sv s) (vi ((i+w.length:Nat):Int)) f
 | [],r,i,_,_=>rfl
 |c::w,r,i,h,hw=>by
  obtain⟨hl,h2,hx⟩:=drop_at (c:=c) (q:=w++r) h;have hlt:((i:Nat):Int)<((s.length:Nat):Int):=by omega
  have e1:=qX c;have e2:=qY c;have e3:=Kg c;have hc:=hw c (by simp);have h5:=j6 hl (by omega);have ih:=jc8 hs x f w r (i+1) h2 (λx hx=>hw x (by simp[hx]));rw[show i+1+w.length=i+(c::w).length by rw[List.length_cons];omega]at ih;unfold jK kV at hc;rw[jgN];cases h1:ZR c<;>cases h2:upc c<;>cases h3:jic c<;>rw[h1]at e1 hc<;>rw[h2]at e2 hc<;>rw[h3]at e3 hc
  .have h95:(c.toNat:Int)=95:=by simpa using hc
   simp only[jk,hlt,hx,e1,e2,e3,h5];simp only[jk,h95];exact ih
  all_goals
   simp only[jk,hlt,hx,e1,e2,e3,h5];exact ih
theorem jp8{s:Xb}(hs:s.length<=1048576){a:Nat}(ha:a<=s.length)(f:Bool)(w r:Xb)(e:w++r=s.drop a)(hw:∀c∈w,jK c=true)(hr:∀c q,r=c::q->jK c=false) :
  jeE (sv s) (vi (a:Nat)) (vb f)=some (.top,[sv s,vi ((a+w.length:Nat):Int),vb (f || decide (w=[])),sv (if f=true\/w=[]then[]else w)]):=by
 have hl:s.length=a+(w.length+r.length):=by
  have:=congrArg List.length e;rw[List.length_append,List.length_drop]at this;omega
 have hk:s.drop (a+w.length)=r:=by rw[<-List.drop_drop,<-e,List.drop_left]
 have hsl:=jsb (s:=s) (a:=a) (b:=a+w.length) (by omega) (by omega);rw[List.drop_take,<-e,show a+w.length-a=w.length by omega,List.take_left]at hsl;rw[jrn,jc8 hs (vi (a:Nat)) (vb f) w r a e.symm hw,jgN];have heq:decide (((a:Nat):Int)=((a+w.length:Nat):Int))=decide (w=[]):=by
  congr 1;refine propext ⟨λh=>List.eq_nil_of_length_eq_zero (by omega),λh=>by rw[h];simp⟩
 have hend:∀B:Xe,(B=(if f=true\/w=[]then some (.top,[sv s,vi ((a+w.length:Nat):Int),vb true,sv []])else some (.top,[sv s,vi ((a+w.length:Nat):Int),vb f,sv w])))->B=some (.top,[sv s,vi ((a+w.length:Nat):Int),vb (f || decide (w=[])),sv (if f=true\/w=[]then[]else w)]):=by
  intro B hB;rw[hB];by_cases h:f=true\/w=[]
  .rw [if_pos h,if_pos h];rcases h with h|h<;>simp[h]
  .rw [if_neg h,if_neg h];have:decide (w=[])=false:=decide_eq_false λe=>h (Or.inr e);rw[this,Bool.or_false]
 refine hend _ ?_;cases r with
 |nil=>
  have nlt:¬((a+w.length:Nat):Int)<((s.length:Nat):Int):=by simp at hl;omega
  generalize ((a+w.length:Nat):Int)=z at *;cases f
  .by_cases h0:w=[]
   .rw [decide_eq_true h0]at heq;have heq:=of_decide_eq_true heq;rw[if_pos (Or.inr h0)];simp only[jk,nlt,heq]
   .rw [decide_eq_false h0]at heq;have heq:=of_decide_eq_false heq;rw[if_neg (by simp[h0])];simp only[jk,nlt,heq,hsl]
  .rw [if_pos (Or.inl rfl)];simp only[jk,nlt]
 |cons c q=>
  obtain⟨k1,k2,k3⟩:=drop_at hk;have hlt:((a+w.length:Nat):Int)<((s.length:Nat):Int):=by omega
  have hc:=hr c q rfl;have e1:=qX c;have e2:=qY c;have e3:=Kg c;unfold jK kV at hc;rw[Bool.or_eq_false_iff,Bool.or_eq_false_iff,Bool.or_eq_false_iff,decide_eq_false_iff_not]at hc;obtain⟨⟨c1,c2⟩,c3,c4⟩:=hc;rw[c1]at e1;rw[c3]at e2;rw[c2]at e3;generalize ((a+w.length:Nat):Int)=z at *;cases f
  .by_cases h0:w=[]
   .rw [decide_eq_true h0]at heq;have heq:=of_decide_eq_true heq;rw[if_pos (Or.inr h0),<-heq];rw[<-heq]at hlt k3;simp only[jk,hlt,k3,e1,e2,e3,c4]
   .rw [decide_eq_false h0]at heq;have heq:=of_decide_eq_false heq;rw[if_neg (by simp[h0])];simp only[jk,hlt,k3,e1,e2,e3,c4,heq,hsl]
  .rw [if_pos (Or.inl rfl)];simp only[jk,hlt,k3,e1,e2,e3,c4]
def raC:Xb->Option (Xg×Xb)
 | []=>none
 |c::q=>if c=44 then ra q else if c=41 then some ([],q)else none
theorem jtD(s:Xb):ra s=match rd s with
  |none=>none
  |some (u,d)=>(raC d).map λp=>(u::p.1,p.2):=by
 rw[jqQ];cases rd s with
 |none=>rfl
 |some p=>
  obtain⟨u,d⟩:=p;cases d with
  |nil=>rfl
  |cons c q=>
   show(if c=44 then _ else _)=Option.map _ (if c=44 then _ else _);by_cases h:c=44
   .rw [if_pos h,if_pos h]
   .rw [if_neg h,if_neg h];by_cases h:c=41
    .rw [if_pos h,if_pos h];rfl
    .rw [if_neg h,if_neg h];rfl
def PtI(s:Xb)(a:Nat):Prop:=∀f:Bool,∃(t:T)(k:Nat)(g:Bool),Yz (sv s) (vi (a:Nat)) (vb f)=some (.top,[sv s,vi (k:Nat),vb g,tm t])/\a<=k/\k<=s.length/\(f=true->g=true)/\
 (f=false->(∃r,rd (s.drop a)=some (t,r)/\g=false/\s.drop k=r)\/(rd (s.drop a)=none/\g=true))
def LpI(s:Xb)(a:Nat):Prop:=∀(f:Bool)(w:Xb)(us:Xg),us.length<=a-> ∃(t:T)(k:Nat)(g:Bool),YD (sv s) (vi (a:Nat)) (vb f) (sv []) (sv w) [] (us.map jl)=some (.top,[sv s,vi (k:Nat),vb g,tm t])/\a<=k/\k<=s.length/\(f=true->g=true)/\
 (f=false->(∃vs r,raC (s.drop a)=some (vs,r)/\t = .mk w (us++vs)/\g=false/\s.drop k=r)\/(raC (s.drop a)=none/\g=true))
theorem jpr{s t:Xb}{a:Nat}{f:Bool}(h:f=true\/t.isPrefixOf (s.drop a)=false)(ha:a<=s.length):jbi (sv t) (sv s) (vi (a:Nat)) (vb f)=some (.top,[sv s,vi (a:Nat),vb true]):=by
 have e1:=yt h ha;rw[jmp];simp only[jk,e1,List.getElem?_cons_zero,List.getElem?_cons_succ]
theorem jnb{s t q:Xb}{a:Nat}(h:s.drop a=t++q)(hs:s.length<=1048576)(ha:a<=s.length):jbi (sv t) (sv s) (vi (a:Nat)) (vb false)=some (.top,[sv s,vi ((a+t.length:Nat):Int),vb false]):=by
 have e1:=(qa h hs ha).1;rw[jmp];simp only[jk,e1,List.getElem?_cons_zero,List.getElem?_cons_succ]
theorem jfx{c:UInt8}{d:Xb}(h:∀q,¬d=c::q): [c].isPrefixOf d=false:=by
 cases d with
 |nil=>rfl
 |cons b q=>
  have:¬c=b:=λe=>h q (by rw[e]);simp[List.isPrefixOf,this]
theorem jtb(w:Xb)(x0 x1 x2:A)(R:Xc):jeN x0 x1 x2 (sv []) (sv w) R []=YD x0 x1 x2 (sv []) (sv w) [] R:=by
 rw[jpk,ja7]
theorem jgW{s:Xb}(hs:s.length<=1048576){a:Nat}(ha:a<=s.length)(ih1:∀k,a<k->k<=s.length->PtI s k)(ih2:∀k,a<k->k<=s.length->LpI s k):LpI s a:=by
 intro f w us hu;by_cases hy:f=false/\ ∃q,s.drop a=44::q
 .obtain ⟨rfl,q,hq⟩:=hy;obtain⟨t1,t2,t3⟩:=qa (t:=[44]) hq hs ha;have t1:qo (sv [44]) (sv s) (vi (a:Nat)) (vb false)=some (.top,[sv s,vi ((a+1:Nat):Int),vb false,vb true]):=t1;have t2:a+1<=s.length:=t2;have t3:s.drop (a+1)=q:=t3;obtain⟨t,k,g,p1,p2,p3,_,p5⟩:=ih1 (a+1) (by omega) t2 false;obtain⟨t',k',g',m1,m2,m3,m4,m5⟩:=ih2 k (by omega) p3 g w (us++[t]) (by rw[List.length_append,List.length_singleton];omega);have hf:ky ((us.map jl).length+1) 40=true:=jlk (by rw[List.length_map];omega);rw[<-jqf us t]at m1;refine⟨t',k',g',?_,by omega,m3,(λh=>by cases h),λ_=>?_⟩
  .rw [<-m1,ja7];generalize us.map jl=R at *;simp only[jk,t1,p1,hf,List.getElem?_cons_zero,List.getElem?_cons_succ]
  .have hc:raC (s.drop a)=ra q:=by rw[hq];unfold raC;simp only;rw[if_pos trivial]
   rw[hc,jtD];rw[t3]at p5;rcases p5 rfl with⟨r,h1,h2,h3⟩|⟨h1,h2⟩
   .rw [h1];rcases m5 h2 with⟨vs,r',j1,j2,j3,j4⟩|⟨j1,j2⟩
    .rw [h3]at j1;exact Or.inl ⟨t::vs,r',by simp only;rw[j1];rfl,by rw[j2,List.append_assoc];rfl,j3,j4⟩
    .rw [h3]at j1;exact Or.inr ⟨by simp only;rw[j1];rfl,j2⟩
   .rw [h1];exact Or.inr ⟨rfl,m4 h2⟩
 .have e0:f=true\/ [44].isPrefixOf (s.drop a)=false:=by
   cases f with
   |true=>exact Or.inl rfl
   |false=>exact Or.inr (jfx λq h=>hy ⟨rfl,q,h⟩)
  have t1:=yt (t:=[44]) e0 ha;by_cases hz:f=false/\ ∃q,s.drop a=41::q
  .obtain ⟨rfl,q,hq⟩:=hz;have m1:=jnb (t:=[41]) hq hs ha;obtain⟨_,t2,t3⟩:=qa (t:=[41]) hq hs ha;have m1:jbi (sv [41]) (sv s) (vi (a:Nat)) (vb false)=some (.top,[sv s,vi ((a+1:Nat):Int),vb false]):=m1;refine⟨.mk w us,a+1,false,?_,by omega,t2,(λh=>by cases h),λ_=>Or.inl ⟨[],q,?_,by rw[List.append_nil],rfl,t3⟩⟩
   .show _=some (A.top,[sv s,vi ((a+1:Nat):Int),vb false,.agg [sv w,.sl 2 (us.map jl)]]);rw[ja7];generalize us.map jl=R at *;simp only[jk,t1,m1,List.getElem?_cons_zero,List.getElem?_cons_succ]
   .rw [hq];rfl
  .have e1:f=true\/ [41].isPrefixOf (s.drop a)=false:=by
    cases f with
    |true=>exact Or.inl rfl
    |false=>exact Or.inr (jfx λq h=>hz ⟨rfl,q,h⟩)
   have m1:=jpr (t:=[41]) e1 ha;refine⟨.mk w us,a,true,?_,Nat.le_refl _,ha,λ_=>rfl,λhf=>Or.inr ⟨?_,rfl⟩⟩
   .show _=some (A.top,[sv s,vi (a:Nat),vb true,.agg [sv w,.sl 2 (us.map jl)]]);rw[ja7];generalize us.map jl=R at *;simp only[jk,t1,m1,List.getElem?_cons_zero,List.getElem?_cons_succ]
   .cases hd:s.drop a with
    |nil=>rfl
    |cons c q=>
     show(if c=44 then _ else _)=_;rw[if_neg (λe=>hy ⟨hf,q,by rw[hd,e]⟩),if_neg (λe=>hz ⟨hf,q,by rw[hd,e]⟩)]
theorem jhf{s:Xb}(hs:s.length<=1048576){a:Nat}(ha:a<=s.length)(ih1:∀k,a<k->k<=s.length->PtI s k)(ih2:∀k,a<k->k<=s.length->LpI s k):PtI s a:=by
 intro f;have e:=Zl (s.drop a);have hw:∀c∈(s.drop a).takeWhile jK,jK c=true:=λc hc=>List.all_eq_true.1 List.all_takeWhile c hc;have hr:∀c q,(s.drop a).dropWhile jK=c::q->jK c=false:=λc q h=>by
  have:=List.head?_dropWhile_not (p:=jK) (l:=s.drop a);rw[h]at this;simpa using this
 have hrd:=jqS (s.drop a);generalize (s.drop a).takeWhile jK=w at *;generalize (s.drop a).dropWhile jK=r at *;have hl:s.length=a+(w.length+r.length):=by
  have:=congrArg List.length e;rw[List.length_append,List.length_drop]at this;omega
 have hk:s.drop (a+w.length)=r:=by rw[<-List.drop_drop,<-e,List.drop_left]
 have hw1:=jp8 hs ha f w r e hw hr;have hkl:a+w.length<=s.length:=by omega
 by_cases h0:f=true\/w=[]
 .rw [if_pos h0]at hw1;have hb:(f || decide (w=[]))=true:=by rcases h0 with h|h<;>simp[h]
  rw[hb]at hw1;have t1:=yt (s:=s) (t:=[40]) (a:=a+w.length) (f:=true) (Or.inl rfl) hkl;refine⟨.mk [] [],a+w.length,true,?_,by omega,hkl,λ_=>rfl,λhf=>Or.inr ⟨?_,rfl⟩⟩
  .show _=some (A.top,[sv s,vi ((a+w.length:Nat):Int),vb true,.agg [sv [],.sl 2 []]]);rw[jmr];simp only[jk,hw1,t1,List.getElem?_cons_zero,List.getElem?_cons_succ]
  .rw [hrd,if_pos];rcases h0 with h|h
   .rw [hf]at h;cases h
   .exact h
 .have hf:f=false:=by cases f with|false=>rfl|true=>exact absurd (Or.inl rfl) h0
  have hw0:¬w=[]:=λh=>h0 (Or.inr h);subst hf;have hwl:0<w.length:=by cases w with|nil=>exact absurd rfl hw0|cons=>simp
  rw[if_neg h0,decide_eq_false hw0]at hw1;have hw1:jeE (sv s) (vi (a:Nat)) (vb false)=some (.top,[sv s,vi ((a+w.length:Nat):Int),vb false,sv w]):=hw1;rw[if_neg hw0]at hrd;by_cases hy:∃q,r=40::q
  .obtain ⟨q,rfl⟩:=hy;obtain⟨t1,t2,t3⟩:=qa (t:=[40]) hk hs hkl;have t1:qo (sv [40]) (sv s) (vi ((a+w.length:Nat):Int)) (vb false)=some (.top,[sv s,vi ((a+w.length+1:Nat):Int),vb false,vb true]):=t1;have t2:a+w.length+1<=s.length:=t2;have t3:s.drop (a+w.length+1)=q:=t3;obtain⟨t,k,g,p1,p2,p3,_,p5⟩:=ih1 (a+w.length+1) (by omega) t2 false;obtain⟨t',k',g',m1,m2,m3,m4,m5⟩:=ih2 k (by omega) p3 g w [t] (by simp;omega);have m1:YD (sv s) (vi (k:Nat)) (vb g) (sv []) (sv w) [] [jl t]=_:=m1;rw[jI,<-jtb]at m1;refine⟨t',k',g',?_,by omega,m3,(λh=>by cases h),λ_=>?_⟩
   .rw [<-m1,jmr];simp only[jk,hw1,t1,p1,List.getElem?_cons_zero,List.getElem?_cons_succ]
   .have hrd:rd (s.drop a)=(ra q).map λp=>(T.mk w p.1,p.2):=hrd;rw[hrd,jtD];rw[t3]at p5;rcases p5 rfl with⟨r,h1,h2,h3⟩|⟨h1,h2⟩
    .rw [h1];rcases m5 h2 with⟨vs,r',j1,j2,j3,j4⟩|⟨j1,j2⟩
     .rw [h3]at j1;exact Or.inl ⟨r',by simp only;rw[j1,j2];rfl,j3,j4⟩
     .rw [h3]at j1;exact Or.inr ⟨by simp only;rw[j1];rfl,j2⟩
    .rw [h1];exact Or.inr ⟨rfl,m4 h2⟩
  .have t1:=yt (s:=s) (t:=[40]) (a:=a+w.length) (f:=false) (Or.inr (by rw[hk];exact jfx λq h=>hy ⟨q,h⟩)) hkl
   refine⟨.mk w [],a+w.length,false,?_,by omega,hkl,(λh=>by cases h),λ_=>Or.inl ⟨r,?_,rfl,hk⟩⟩
   .show _=some (A.top,[sv s,vi ((a+w.length:Nat):Int),vb false,.agg [sv w,.sl 2 []]]);rw[jmr];simp only[jk,hw1,t1,List.getElem?_cons_zero,List.getElem?_cons_succ]
   .rw [hrd];cases r with
    |nil=>rfl
    |cons c q=>
     show(if c=40 then _ else _)=_;rw[if_neg λh=>hy ⟨q,by rw[h]⟩]
theorem jfy{s:Xb}(hs:s.length<=1048576):∀(n a:Nat),a<=s.length->s.length-a<=n->PtI s a/\LpI s a
 |0,a,h1,h2=>⟨jhf hs h1 (λk h3 h4=>by omega) (λk h3 h4=>by omega),jgW hs h1 (λk h3 h4=>by omega) (λk h3 h4=>by omega)⟩
 |n+1,a,h1,h2=>by
  have i1:∀k,a<k->k<=s.length->PtI s k:=λk h3 h4=>(jfy hs n k h4 (by omega)).1;have i2:∀k,a<k->k<=s.length->LpI s k:=λk h3 h4=>(jfy hs n k h4 (by omega)).2;exact⟨jhf hs h1 i1 i2,jgW hs h1 i1 i2⟩
theorem jhJ{s:Xb}(hs:s.length<=1048576){a:Nat}(ha:a<=s.length):PtI s a:=(jfy hs _ a ha (Nat.le_refl _)).1
theorem Zv{s r:Xb}{k:Nat}(h:s.drop k=r)(hk:k<=s.length):r=[]↔k=s.length:=by
 have:=congrArg List.length h;rw[List.length_drop]at this;constructor
 .intro e;rw[e]at this;simp at this;omega
 .intro e;exact List.eq_nil_of_length_eq_zero (by omega)
theorem jiM{s:Xb}{a k:Nat}{t:T}{g:Bool}(hk:k<=s.length)(h:(∃r,rd (s.drop a)=some (t,r)/\g=false/\s.drop k=r)\/(rd (s.drop a)=none/\g=true)) :
  (rdE (s.drop a)=some t/\g=false/\k=s.length)\/(rdE (s.drop a)=none/\(g=true\/ ¬k=s.length)):=by
 unfold rdE;rcases h with⟨r,h1,h2,h3⟩|⟨h1,h2⟩
 .rw [h1];cases r with
  |nil=>exact Or.inl ⟨rfl,h2,(Zv h3 hk).1 rfl⟩
  |cons c q=>exact Or.inr ⟨rfl,Or.inr λe=>by have:=(Zv h3 hk).2 e;cases this⟩
 .rw [h1];exact Or.inr ⟨rfl,Or.inl h2⟩
theorem jnq{s:Xb}(hs:s.length<=1048576){a:Nat}(ha:a<=s.length):∃(t:T)(k:Nat)(g:Bool),jl7 (sv s) (vi (a:Nat)) (vb false)=some (.top,[sv s,vi (k:Nat),vb g,tm t])/\k<=s.length/\
  ((jdw (s.drop a)=some t/\g=false/\k=s.length)\/(jdw (s.drop a)=none/\(g=true\/ ¬k=s.length))):=by
 obtain⟨t,k,g,p1,p2,p3,_,p5⟩:=jhJ hs ha false;unfold jdw;rcases p5 rfl with⟨r,h1,rfl,h3⟩|⟨h1,rfl⟩
 .rw [h1];simp only;by_cases hy: [32,61,32].isPrefixOf r=true
  .obtain ⟨q,rfl⟩:=List.isPrefixOf_iff_prefix.1 hy;obtain⟨t1,t2,t3⟩:=qa (t:=[32,61,32]) h3 hs p3;have t1:qo (sv [32,61,32]) (sv s) (vi (k:Nat)) (vb false)=some (.top,[sv s,vi ((k+3:Nat):Int),vb false,vb true]):=t1;have t2:k+3<=s.length:=t2;have t3:s.drop (k+3)=q:=t3;obtain⟨u,k',g',m1,m2,m3,_,m5⟩:=jhJ hs t2 false;have m6:=jiM m3 (m5 rfl);rw[if_pos hy];show ∃(t:T)(k:Nat)(g:Bool),_/\_/\(((rdE q).map _=_/\_)\/((rdE q).map _=_/\_));rw[t3]at m6;refine⟨eqT t u,k',g',?_,m3,?_⟩
   .show _=some (A.top,[sv s,vi (k':Nat),vb g',A.agg [sv [61],.sl 2 [jl t,jl u]]]);rw[jI t,jI u,jmq];simp only[jk,p1,t1,m1,List.getElem?_cons_zero,List.getElem?_cons_succ]
   .rcases m6 with⟨j1,j2,j3⟩|⟨j1,j2⟩
    .exact Or.inl ⟨by rw[j1];rfl,j2,j3⟩
    .exact Or.inr ⟨by rw[j1];rfl,j2⟩
  .have hn: [32,61,32].isPrefixOf r=false:=Bool.eq_false_iff.2 hy;have t1:=yt (s:=s) (t:=[32,61,32]) (a:=k) (f:=false) (Or.inr (by rw[h3];exact hn)) p3;rw[if_neg hy];refine⟨t,k,false,?_,p3,?_⟩
   .rw [jmq];simp only[jk,p1,t1,List.getElem?_cons_zero,List.getElem?_cons_succ]
   .by_cases h0:r=[]
    .rw [if_pos h0];exact Or.inl ⟨rfl,rfl,(Zv h3 p3).1 h0⟩
    .rw [if_neg h0];exact Or.inr ⟨rfl,Or.inr λe=>h0 ((Zv h3 p3).2 e)⟩
 .rw [h1];have t1:=yt (s:=s) (t:=[32,61,32]) (a:=k) (f:=true) (Or.inl rfl) p3;refine⟨t,k,true,?_,p3,Or.inr ⟨rfl,Or.inl rfl⟩⟩;rw[jmq];simp only[jk,p1,t1,List.getElem?_cons_zero,List.getElem?_cons_succ]
theorem jiu{s:Xb}(hs:s.length<=1048576):∃(l:Lt)(k:Nat)(g:Bool),jl4 (sv s) (vi 0) (vb false)=some (.top,[sv s,vi (k:Nat),vb g,ltm l])/\k<=s.length/\
  ((QR s=some l/\g=false/\k=s.length)\/(QR s=none/\(g=true\/ ¬k=s.length))):=by
 have z0:((0:Nat):Int)=0:=rfl;unfold QR;by_cases hy: [126].isPrefixOf s=true
 .obtain ⟨q,hq⟩:=List.isPrefixOf_iff_prefix.1 hy;obtain⟨t1,t2,t3⟩:=qa (t:=[126]) (s:=s) (a:=0) (q:=q) (by rw[List.drop_zero,hq]) hs (Nat.zero_le _);have t1:qo (sv [126]) (sv s) (vi 0) (vb false)=some (.top,[sv s,vi ((1:Nat):Int),vb false,vb true]):=t1;have t2:1<=s.length:=by have:0+1<=s.length:=t2;omega
  obtain⟨t,k,g,p1,p2,p3⟩:=jnq hs t2;rw[if_pos hy];refine⟨(false,t),k,g,?_,p2,?_⟩
  .show _=some (A.top,[sv s,vi (k:Nat),vb g,A.agg [vb false,sv t.name,.sl 2 (t.args.map jl)]]);rw[jgb];simp only[jk,t1,p1,List.getElem?_cons_zero,List.getElem?_cons_succ]
  .rcases p3 with⟨j1,j2,j3⟩|⟨j1,j2⟩
   .exact Or.inl ⟨by rw[j1];rfl,j2,j3⟩
   .exact Or.inr ⟨by rw[j1];rfl,j2⟩
 .have hn: [126].isPrefixOf s=false:=Bool.eq_false_iff.2 hy;have t0:=yt (s:=s) (t:=[126]) (a:=0) (f:=false) (Or.inr (by rw[List.drop_zero];exact hn)) (Nat.zero_le _);rw[z0]at t0;obtain⟨t,k,g,p1,_,p3,_,p5⟩:=jhJ hs (Nat.zero_le _) false;rw[z0]at p1;rw[List.drop_zero]at p5;rw[if_neg hy];rcases p5 rfl with⟨r,h1,rfl,h3⟩|⟨h1,rfl⟩
  .rw [h1];simp only;by_cases hy1: [32,33,61,32].isPrefixOf r=true
   .obtain ⟨q,rfl⟩:=List.isPrefixOf_iff_prefix.1 hy1;obtain⟨t1,t2,t3⟩:=qa (t:=[32,33,61,32]) h3 hs p3;have t1:qo (sv [32,33,61,32]) (sv s) (vi (k:Nat)) (vb false)=some (.top,[sv s,vi ((k+4:Nat):Int),vb false,vb true]):=t1;have t2:k+4<=s.length:=t2;have t3:s.drop (k+4)=q:=t3;obtain⟨u,k',g',m1,m2,m3,_,m5⟩:=jhJ hs t2 false;have m6:=jiM m3 (m5 rfl);rw[if_pos hy1];rw[t3]at m6;refine⟨(false,eqT t u),k',g',?_,m3,?_⟩
    .show _=some (A.top,[sv s,vi (k':Nat),vb g',A.agg [vb false,sv [61],.sl 2 [jl t,jl u]]]);rw[jI t,jI u,jgb];simp only[jk,t0,p1,t1,m1,List.getElem?_cons_zero,List.getElem?_cons_succ]
    .show ((rdE q).map _=_/\_)\/((rdE q).map _=_/\_);rcases m6 with⟨j1,j2,j3⟩|⟨j1,j2⟩
     .exact Or.inl ⟨by rw[j1];rfl,j2,j3⟩
     .exact Or.inr ⟨by rw[j1];rfl,j2⟩
   .have hn1: [32,33,61,32].isPrefixOf r=false:=Bool.eq_false_iff.2 hy1;have t1:=yt (s:=s) (t:=[32,33,61,32]) (a:=k) (f:=false) (Or.inr (by rw[h3];exact hn1)) p3;rw[if_neg hy1];by_cases hy2: [32,61,32].isPrefixOf r=true
    .obtain ⟨q,rfl⟩:=List.isPrefixOf_iff_prefix.1 hy2;obtain⟨t4,t2,t3⟩:=qa (t:=[32,61,32]) h3 hs p3;have t4:qo (sv [32,61,32]) (sv s) (vi (k:Nat)) (vb false)=some (.top,[sv s,vi ((k+3:Nat):Int),vb false,vb true]):=t4;have t2:k+3<=s.length:=t2;have t3:s.drop (k+3)=q:=t3;obtain⟨u,k',g',m1,m2,m3,_,m5⟩:=jhJ hs t2 false;have m6:=jiM m3 (m5 rfl);rw[if_pos hy2];rw[t3]at m6;refine⟨(true,eqT t u),k',g',?_,m3,?_⟩
     .show _=some (A.top,[sv s,vi (k':Nat),vb g',A.agg [vb true,sv [61],.sl 2 [jl t,jl u]]]);rw[jI t,jI u,jgb];simp only[jk,t0,p1,t1,t4,m1,List.getElem?_cons_zero,List.getElem?_cons_succ]
     .show ((rdE q).map _=_/\_)\/((rdE q).map _=_/\_);rcases m6 with⟨j1,j2,j3⟩|⟨j1,j2⟩
      .exact Or.inl ⟨by rw[j1];rfl,j2,j3⟩
      .exact Or.inr ⟨by rw[j1];rfl,j2⟩
    .have hn2: [32,61,32].isPrefixOf r=false:=Bool.eq_false_iff.2 hy2;have t4:=yt (s:=s) (t:=[32,61,32]) (a:=k) (f:=false) (Or.inr (by rw[h3];exact hn2)) p3;rw[if_neg hy2];refine⟨(true,t),k,false,?_,p3,?_⟩
     .show _=some (A.top,[sv s,vi (k:Nat),vb false,A.agg [vb true,sv t.name,.sl 2 (t.args.map jl)]]);rw[jgb];simp only[jk,t0,p1,t1,t4,List.getElem?_cons_zero,List.getElem?_cons_succ]
     .by_cases h0:r=[]
      .rw [if_pos h0];exact Or.inl ⟨rfl,rfl,(Zv h3 p3).1 h0⟩
      .rw [if_neg h0];exact Or.inr ⟨rfl,Or.inr λe=>h0 ((Zv h3 p3).2 e)⟩
  .rw [h1];have t1:=yt (s:=s) (t:=[32,33,61,32]) (a:=k) (f:=true) (Or.inl rfl) p3;have t4:=yt (s:=s) (t:=[32,61,32]) (a:=k) (f:=true) (Or.inl rfl) p3;refine⟨(true,t),k,true,?_,p3,Or.inr ⟨rfl,Or.inl rfl⟩⟩;show _=some (A.top,[sv s,vi (k:Nat),vb true,A.agg [vb true,sv t.name,.sl 2 (t.args.map jl)]]);rw[jgb];simp only[jk,t0,p1,t1,t4,List.getElem?_cons_zero,List.getElem?_cons_succ]
theorem jr4{s:Xb}{t:T}(h:rdE s=some t):tsz t<=s.length:=by
 unfold rdE at h;split at h
 .rename_i u hu;cases h;have:=(Zd hu).2.1;omega
 .cases h
theorem jry{a b:T}{n:Nat}(h:3+tsz a+tsz b<=n):tsz (eqT a b)<=n:=by
 show tsz (.mk [61] [a,b])<=n;rw[zp];simp only[List.length_cons,List.length_nil,kM];omega
theorem jid{s r p:Xb}{t u:T}(h:rd s=some (t,r))(hp:p.isPrefixOf r=true)(h3:3<=p.length)(hu:rdE (r.drop p.length)=some u):tsz (eqT t u)<=s.length:=by
 obtain⟨q,rfl⟩:=List.isPrefixOf_iff_prefix.1 hp;rw[List.drop_left]at hu;have k1:=jr4 hu;have k2:=(Zd h).2.1;rw[List.length_append]at k2;exact jry (by omega)
theorem jpm{s:Xb}{l:Lt}(h:QR s=some l):tsz l.2<=s.length:=by
 unfold QR at h;split at h
 .obtain ⟨t,h1,rfl⟩:=Option.map_eq_some_iff.1 h;show tsz t<=_;unfold jdw at h1;have hd:(s.drop 1).length<=s.length:=by rw[List.length_drop];omega
  split at h1
  .cases h1
  .rename_i u r hr;split at h1
   .rename_i hp;obtain⟨v,h2,rfl⟩:=Option.map_eq_some_iff.1 h1;have:=jid hr hp (by decide) h2;omega
   .split at h1
    .cases h1;have:=(Zd hr).2.1;omega
    .cases h1
 .split at h
  .cases h
  .rename_i u r hr;split at h
   .rename_i hp;obtain⟨v,h2,rfl⟩:=Option.map_eq_some_iff.1 h;exact jid hr hp (by decide) h2
   .split at h
    .rename_i hp;obtain⟨v,h2,rfl⟩:=Option.map_eq_some_iff.1 h;exact jid hr hp (by decide) h2
    .split at h
     .cases h;have:=(Zd hr).2.1;show tsz u<=_;omega
     .cases h
theorem jbt{t:T}(h:jR t=true):Bx t/\tsz t<=300:=by
 obtain⟨h1,h2⟩:=KQ.1 h;unfold kz at h2;rw[Bool.and_eq_true,decide_eq_true_eq]at h2;exact⟨h1,YO h1 h2.1⟩
theorem jaU{s:Xb}(hs:s.length<=1048576):G 22 [sv s]=some (.tup [ltm (lO (Yg s)),vb (Yg s).isSome],[]):=by
 obtain⟨l,k,g,e1,hk,h⟩:=jiu hs;have hB:∀B,B=some (A.agg [sv s,vi 0,vb false])->B=some (A.agg [sv s,vi 0,vb false]):=λ_ h=>h;unfold Yg;rw[g22];generalize hB:yc _ _ _=B;have hB':B=some (A.agg [sv s,vi 0,vb false]):=by rw[<-hB];kernel_rfl
 rw[hB'];have ended:jjj (sv s) (vi (k:Nat)) (vb g)=some (.top,[sv s,vi (k:Nat),vb g,vb (!g && decide (k=s.length))]):=by
  have:decide (((k:Nat):Int)=((s.length:Nat):Int))=decide (k=s.length):=by congr 1;exact propext (by omega)
  rw[jsP,<-this];cases g<;>simp only[jk,Bool.true_and,Bool.false_and]
 rcases h with⟨h1,rfl,h3⟩|⟨h1,h2⟩
 .rw [h1];have hz:=jpm h1;rw[decide_eq_true h3]at ended;have ended:jjj (sv s) (vi (k:Nat)) (vb false)=some (.top,[sv s,vi (k:Nat),vb false,vb true]):=ended;have e2:=Jq l (show Tz l.2 by unfold Tz;omega);simp only;cases ha:jR l.2 with
  |false=>
   rw[ha]at e2;show _=some (A.tup [A.agg [vb false,sv [],.sl 2 []],vb false],[]);simp only[jk,e1,ended,e2,List.getElem?_cons_zero,List.getElem?_cons_succ]
  |true=>
   rw[ha]at e2;obtain⟨b1,b2⟩:=jbt ha;have e3:=(Zx (l:=l) b1 b2).2.1;by_cases hf:jN l=s
   .rw [decide_eq_true hf];show _=some (A.tup [ltm l,vb true],[]);simp only[jk,e1,ended,e2,e3,hf,List.getElem?_cons_zero,List.getElem?_cons_succ]
   .rw [decide_eq_false hf];show _=some (A.tup [A.agg [vb false,sv [],.sl 2 []],vb false],[]);simp only[jk,e1,ended,e2,e3,hf,List.getElem?_cons_zero,List.getElem?_cons_succ]
 .rw [h1];have:(!g && decide (k=s.length))=false:=by
   rcases h2 with h|h
   .rw [h];rfl
   .rw [decide_eq_false h,Bool.and_false]
  rw[this]at ended;show _=some (A.tup [A.agg [vb false,sv [],.sl 2 []],vb false],[]);simp only[jk,e1,ended,List.getElem?_cons_zero,List.getElem?_cons_succ]
theorem jlI{s sep:Xb}(hs:s.length<=1048576)(h1:1<=sep.length):G 21 [sv s,sv sep]=some (.sl 1 ((Lib.split s sep).map cs),[]):=by
 have:K.ext 21=some jfM:=rfl;rw[jqa this];show(if _ then _ else _)=_;rw[if_pos ⟨by show 1<=sep.length;exact h1,by show s.length<4294967281;omega⟩]
theorem jej:∀(n:Nat)(s:Xb),s.length<=n->3*(Lib.split s ku).length<=s.length+3
 |n,s,hn=>by
  rcases Int.lt_or_le (Lib.index s ku) 0 with h|h
  .have:=Lib.index_ge s ku;rw[Jf (by omega)];simp only[List.length_cons,List.length_nil];omega
  .obtain ⟨i,hi⟩:∃i:Nat,Lib.index s ku=i:=⟨(Lib.index s ku).toNat,by omega⟩;obtain⟨x,y,e,el⟩:=qW hi;have hl:s.length=i+3+y.length:=by rw[e,List.length_append,List.length_append,el];rfl
   have hd:(s.drop (i+3)).length=s.length-(i+3):=List.length_drop;rw[J0 hi];cases n with
   |zero=>omega
   |succ n=>
    have ih:=jej n (s.drop (i+3)) (by omega);simp only[List.length_cons];omega
theorem jpl{s:Xb}{l:Lt}(h:Yg s=some l):tsz l.2<=300:=jfj (by rw[<-jgR];exact h)
theorem jha(xs:Xa)(hl:xs.length<=400000)(hx:∀x∈xs,x.length<=1048576):∀i,i<=xs.length-> ∀c:kA,c.length=i->(∀l∈c,tsz l.2<=300)->
  jor (.sl 1 (xs.map cs)) (vi (xs.length:Nat)) (vi (i:Nat)) [] (c.map kq)=some (.tup [cm (cO (ends c (Jn Yg (xs.drop i)))),vb (ends c (Jn Yg (xs.drop i))).isSome],[]):=by
 refine upto ?_ ?_
 .intro c hc hz;have nlt:¬((xs.length:Nat):Int)<((xs.length:Nat):Int):=by omega
  have e1:=JQ c (by omega) (λl h=>by have:=hz l h;unfold Tz;omega)
  have e1:G 19 [.agg [.sl 3 (c.map kq)]]=some (vb (kh c),[]):=e1;have hr:ends c (Jn Yg (xs.drop xs.length))=if kh c then some c else none:=by
   rw[List.drop_length];show(if kh (c++[])=true then _ else _)=_;rw[List.append_nil]
  rw[hr,jrJ];cases hv:kh c<;>rw[hv]at e1
  .show _=some (A.tup [A.agg [.sl 3 []],vb false],[]);generalize c.map kq=R at *;simp only[jk,nlt,e1]
  .show _=some (A.tup [A.agg [.sl 3 (c.map kq)],vb true],[]);generalize c.map kq=R at *;simp only[jk,nlt,e1]
 .intro i hi ih c hc hz;have hlt:(i:Int)<((xs.length:Nat):Int):=by omega
  have h5:=j6 hi (by omega);have x1:js 1 (.sl 1 (xs.map cs)) (vi (i:Nat))=some (.elt (cs xs[i]) 0):=jf hi;have e1:=jaU (hx _ (List.getElem_mem hi));have hf:ky ((c.map kq).length+1) 48=true:=jqO (by rw[List.length_map];omega);rw[jL hi,Jn];generalize xs[i]=x at *;cases h2:Yg x with
  |none=>
   rw[h2]at e1;have e1:G 22 [sv x]=some (.tup [A.agg [vb false,sv [],.sl 2 []],vb false],[]):=e1;show _=some (A.tup [A.agg [.sl 3 []],vb false],[]);rw[jrJ];simp only[jk,hlt,x1,ldS,e1]
  |some l=>
   rw[h2]at e1;have e1:G 22 [sv x]=some (.tup [ltm l,vb true],[]):=e1;have ih:=ih (c++[l]) (by rw[List.length_append,List.length_singleton];omega) (λx hx=>by
    rcases List.mem_append.1 hx with hx|hx
    .exact hz x hx
    .rw [List.mem_singleton.1 hx];exact jpl h2)
   rw[<-jh3]at ih;simp only;rw[jbG,<-ih,jrJ];generalize c.map kq=R at *;simp only[jk,hlt,x1,ldS,e1,hf,h5]
theorem jn5{s:Xb} :∀x∈Lib.split s ku,x.length<=s.length:=by
 have:∀(n:Nat)(s:Xb),s.length<=n-> ∀x∈Lib.split s ku,x.length<=s.length:=by
  intro n;induction n with
  |zero=>
   intro s hs x hx;rw[List.eq_nil_of_length_eq_zero (Nat.le_zero.1 hs)]at hx;rw[List.mem_singleton.1 (show x ∈ [[]] from hx)];exact Nat.zero_le _
  |succ n ih=>
   intro s hs x hx;rcases Int.lt_or_le (Lib.index s ku) 0 with h|h
   .have:=Lib.index_ge s ku;rw[Jf (by omega)]at hx;rw[List.mem_singleton.1 hx];exact Nat.le_refl _
   .obtain ⟨i,hi⟩:∃i:Nat,Lib.index s ku=i:=⟨(Lib.index s ku).toNat,by omega⟩;obtain⟨p,y,e,el⟩:=qW hi;have hl:s.length=i+3+y.length:=by rw[e,List.length_append,List.length_append,el];rfl
    have hd:(s.drop (i+3)).length=s.length-(i+3):=List.length_drop;rw[J0 hi]at hx;rcases List.mem_cons.1 hx with hx|hx
    .rw [hx,List.length_take];omega
    .have:=ih _ (by omega) x hx;omega
 exact this s.length s (Nat.le_refl _)
theorem Kf{s:Xb}(hs:s.length<=1048576):G 8 [sv s]=some (.tup [cm (cO (clF Yg s)),vb (clF Yg s).isSome],[]):=by
 unfold clF;rw[g8];by_cases h1:s=je1
 .have h1':s=[36,102,97,108,115,101]:=h1;rw[if_pos h1];show _=some (A.tup [A.agg [.sl 3 []],vb true],[]);simp only[jk,h1']
 .have h1':¬s=[36,102,97,108,115,101]:=h1;rw[if_neg h1];have e1:=jlI (sep:=ku) hs (by decide);have e1:G 21 [sv s,sv [32,124,32]]=_:=e1;have hn:=jej s.length s (Nat.le_refl _);have key:=jha (Lib.split s ku) (by omega) (λx hx=>Nat.le_trans (jn5 x hx) hs) 0 (Nat.zero_le _) [] rfl (λl h=>by cases h);rw[List.map_nil,List.drop_zero]at key;have he:∀o:Option kA,ends [] o=match o with|some c=>if kh c then some c else none|none=>none:=λo=>by cases o<;>rfl
  rw[he]at key;refine Eq.trans ?_ key;generalize Lib.split s ku=xs at *;simp only[jk,h1',e1];rfl
theorem qf{c:kA}(hl:c.length<=1048576)(hz:∀l∈c,Tz l.2):G 7 [cm c]=some (.tup [sv (if kh c then fmtC c else[]),vb (kh c)],[]):=by
 have e1:=JQ c hl hz;rw[g7];cases h:kh c<;>rw[h]at e1
 .rw [if_neg Bool.false_ne_true];simp only[jk,e1]
 .rw [if_pos rfl];have e2:=jaM (Qu h).1;simp only[jk,e1,e2]
abbrev cy(n:Int):Xd:=[vy n]
abbrev kP(l:Xi):A:= .sl 1 (l.map cy)
abbrev vu(n:Int):A:= .val (.int .u64 n)
def By(l:Xi):Prop:=(∀n∈l,0<=n/\n<=255)/\l.length<=65536
theorem z6(a x0 x1 x2 x3:A)(us:Xg)(l:Xd):hR 2 (a,x0::x1::x2::x3::zR us::l) 4=some (us.map jl):=by simp[hR,zR]
set_option maxRecDepth 100000 in
theorem jok:∀n:Fin 256,IntKind.u64.wrap ((n.val:Nat):Int)=((n.val:Nat):Int):=by decide
theorem jnK(x y:Int):jx .mul false (vu x) (vu y)=some (vu (IntKind.u64.wrap (x*y))):=rfl
theorem jnJ(x y:Int):jx .add false (vu x) (vu y)=some (vu (IntKind.u64.wrap (x+y))):=rfl
theorem jr1(x:Int):jx .shr false (vu x) (vu 40)=some (vu (JM .shr .u64 x 40)):=by
 show(if(0:Int)<=40 then some (vu (JM .shr .u64 x 40))else none)=_;rw[if_pos (by decide)]
theorem jr0(x:Int):jx .and false (vu x) (vu 255)=some (vu (JM .and .u64 x 255)):=rfl
theorem jkH(x:Int):0<=JM .and .u64 x 255/\JM .and .u64 x 255<=255:=by
 have h:(BitVec.ofInt 64 x &&& BitVec.ofInt 64 255).toNat<=255:=by
  rw[BitVec.toNat_and];have h2:(BitVec.ofInt 64 255).toNat=255:=by decide
  rw[h2];exact Nat.and_le_right
 show 0<=IntKind.u64.wrap (((BitVec.ofInt 64 x &&& BitVec.ofInt 64 255).toNat:Nat):Int)/\IntKind.u64.wrap (((BitVec.ofInt 64 x &&& BitVec.ofInt 64 255).toNat:Nat):Int)<=255;generalize (BitVec.ofInt 64 x &&& BitVec.ofInt 64 255).toNat=m at *;have:=jok ⟨m,by omega⟩;simp only at this;rw[this];omega
theorem jnB(k:IntKind)(a:Int):Qe .u64 (.val (.int k a))=some (vu (IntKind.u64.wrap a)):=rfl
theorem jnA(k:IntKind)(a:Int):Qe .i64 (.val (.int k a))=ck a:=rfl
theorem jnf(n:Int):jO (vu n)=true:=rfl
section
variable{code:Xi}(hb:By code)
include hb
theorem jfp(a s:Int)(h0:0<=a)(h1:a<=1000000000):∃s' x,0<=x/\x<=255/\jjl (kP code) (vi a) (vu s)=some (.top,[kP code,vi (a+1),vu s',vi x]):=by
 obtain⟨k,rfl⟩:∃k:Nat,a=(k:Nat):=⟨a.toNat,by omega⟩;have c1:ck (((k:Nat):Int)+1)=some (vi (((k:Nat):Int)+1)):=ko (by omega) (by omega);have hcl:=hb.2;rw[jsS];by_cases hk:k<code.length
 .have hlt:((k:Nat):Int)<((code.length:Nat):Int):=by omega
  have hle:((k:Nat):Int)+1<=((code.length:Nat):Int):=by omega
  have hv:=hb.1 code[k] (List.getElem_mem hk);have c2:ck code[k]=some (vi code[k]):=ko (by omega) (by omega);exact⟨_,code[k],hv.1,hv.2,by simp only[jk,hlt,jf hk,jnA,c2,c1,jnK,jnB,jnJ,jnf,hle];rfl⟩
 .have hlt:¬((k:Nat):Int)<((code.length:Nat):Int):=by omega
  have hle:¬((k:Nat):Int)+1<=((code.length:Nat):Int):=by omega
  generalize hz:IntKind.u64.wrap (IntKind.u64.wrap (IntKind.u64.wrap (s*6364136223846793005)+IntKind.u64.wrap 0)+892892)=z;have hbd:=jkH (JM .shr .u64 z 40);have c2:ck (JM .and .u64 (JM .shr .u64 z 40) 255)=some (vi (JM .and .u64 (JM .shr .u64 z 40) 255)):=ko (by omega) (by omega);exact⟨z,_,hbd.1,hbd.2,by simp only[jk,hlt,c1,jnK,jnB,jnJ,hz,jnf,hle,jr1,jr0,jnA,c2]⟩
omit hb in
theorem jty{x n:Int}(h0:0<=x)(hn:1<=n):jx .rem false (vi x) (vi n)=some (vi (x % n)):=by
 show(if n=0 then none else some (vi (x.tmod n)))=_;rw[if_neg (by omega),Int.tmod_eq_emod_of_nonneg h0]
theorem zf(n:Int)(hn:1<=n)(hn':n<=200)(a s:Int)(h0:0<=a)(h1:a<=1000000000):∃a' s' x,a<=a'/\a'<=a+1/\0<=x/\x<n/\yz (vi n) (kP code) (vi a) (vu s)=some (.top,[kP code,vi a',vu s',vi x]):=by
 rw[jqh];by_cases h:n<=1
 .exact ⟨a,s,0,by omega,by omega,by omega,by omega,by simp only[jk,h]⟩
 .obtain ⟨s',x,x0,x1,e⟩:=jfp hb a s h0 h1;have e2:=jty x0 hn;have hg:¬(200:Int)<n:=by omega
  refine⟨a+1,s',x % n,by omega,by omega,Int.emod_nonneg _ (by omega),Int.emod_lt_of_pos _ (by omega),?_⟩;simp only[jk,h,e,List.getElem?_cons_zero,List.getElem?_cons_succ,hg,e2,z6]
theorem JA(n:Int)(hn:1<=n)(hn':n<=200)(a s:Int)(h0:0<=a)(h1:a<=1000000000):∃a' s' b,a<=a'/\a'<=a+1/\J3 (vi n) (kP code) (vi a) (vu s)=some (.top,[kP code,vi a',vu s',vb b]):=by
 obtain⟨a',s',x,q1,q2,_,_,e⟩:=zf hb n hn hn' a s h0 h1;refine⟨a',s',decide (x=0),q1,q2,?_⟩;rw[jri];simp only[jk,e,List.getElem?_cons_zero,List.getElem?_cons_succ,z6]
theorem jg5(l:Xa)(hn:1<=l.length)(hn':l.length<=200)(a s:Int)(h0:0<=a)(h1:a<=1000000000):∃a' s' w,w∈l/\a<=a'/\a'<=a+1/\yV (kP code) (vi a) (vu s) (l.map cs)=some (.top,[kP code,vi a',vu s',sv w]):=by
 obtain⟨a',s',x,q1,q2,x0,x1,e⟩:=zf hb ((l.length:Nat):Int) (by omega) (by omega) a s h0 h1;obtain⟨i,rfl⟩:∃i:Nat,x=(i:Nat):=⟨x.toNat,by omega⟩;have hi:i<l.length:=by omega
 have e1:pIx l.length (vi ((i:Nat):Int))=some i:=K7 hi;have e2:jat (l.map cs) i 0=some (sv l[i]):=by unfold jat;simp[hi]
 refine⟨a',s',l[i],List.getElem_mem hi,q1,q2,?_⟩;rw[jsN];simp only[jk,e,List.getElem?_cons_zero,List.getElem?_cons_succ,e1,e2]
end
theorem jp1(t:T):zR [t] = .sl 2 [[sv t.name,.sl 2 (t.args.map jl)]]:=by
 show A.sl 2 [jl t]=_;rw[jI]
theorem ji9(t u:T):zR [t,u] = .sl 2 [[sv t.name,.sl 2 (t.args.map jl)],[sv u.name,.sl 2 (u.args.map jl)]]:=by
 show A.sl 2 [jl t,jl u]=_;rw[jI,jI]
abbrev S5:Xa:=[[88],[89],[90],[88,121,122,57],[81,49]]
def JV(n:Xb):Bool:= !jE n || S5.contains n
mutual
def Yl:T->Bool
 |.mk n us=>JV n && Jk us
def Jk:Xg->Bool
 | []=>true
 |t::ts=>Yl t && Jk ts
end
theorem jiz(t:T):Yl t=(JV t.name && Jk t.args):=by cases t;rw[Yl];rfl
theorem jck:∀us vs:Xg,Jk (us++vs)=(Jk us && Jk vs)
 | [],vs=>by rw[List.nil_append,Jk,Bool.true_and]
 |u::us,vs=>by rw[List.cons_append,Jk,Jk,jck us vs,Bool.and_assoc]
theorem nm0{n:Xb}(h:JV n=true):Yl (.mk n [])=true:=by rw[Yl,h];rfl
theorem nm1{n:Xb}{t:T}(h:JV n=true)(ht:Yl t=true):Yl (.mk n [t])=true:=by rw[Yl,h,Jk,ht];rfl
theorem nm2{n:Xb}{t u:T}(h:JV n=true)(ht:Yl t=true)(hu:Yl u=true):Yl (.mk n [t,u])=true:=by rw[Yl,h,Jk,ht,Jk,hu];rfl
theorem nmA{t:T}(h:Yl t=true):Jk t.args=true:=by rw[jiz,Bool.and_eq_true]at h;exact h.2
theorem nmN{t:T}(h:Yl t=true):JV t.name=true:=by rw[jiz,Bool.and_eq_true]at h;exact h.1
theorem jg3{n:Xb}{us:Xg}(h:JV n=true)(hu:Jk us=true):Yl (.mk n us)=true:=by rw[Yl,h,hu];rfl
def TD(code:Xi)(z q:Nat)(a:Int)(o:Xe):Prop:=∃a' s' t,a<=a'/\a'<=a+(q:Nat)/\(tsz t<=z/\Yl t=true)/\o=some (.top,[kP code,vi a',vu s',sv (T.name t),zR (T.args t)])
section
variable{code:Xi}(hb:By code)
include hb
theorem ja8(l:Xa)(hn:1<=l.length)(hn':l.length<=200)(hl:∀w∈l,w.length<=1/\JV w=true)(a s:Int)(h0:0<=a)(h1:a<=1000000000) :
  ∃a' s' w,(w.length<=1/\JV w=true)/\a<=a'/\a'<=a+1/\yV (kP code) (vi a) (vu s) (l.map cs)=some (.top,[kP code,vi a',vu s',sv w]):=by
 obtain⟨a',s',w,hw,q1,q2,e⟩:=jg5 hb l hn hn' a s h0 h1;exact⟨a',s',w,hl w hw,q1,q2,e⟩
theorem jmM:∀(d:Nat),d<=100-> ∀(qx:Int),qx<=(d:Nat)-> -1000<=qx-> ∀(a s:Int),0<=a->a+((3*4 ^ d:Nat):Int)<=1000000000->TD code (3*4 ^ d) (3*4 ^ d) a (zS (vi qx) (kP code) (vi a) (vu s)):=by
 have base:∀(d:Nat)(qx:Int),qx<=1-> ∀(a s:Int),0<=a->a+((3*4 ^ d:Nat):Int)<=1000000000->TD code (3*4 ^ d) (3*4 ^ d) a (zS (vi qx) (kP code) (vi a) (vu s)):=by
  intro d qx hd a s h0 h1;have hp:1<=4 ^ d:=Nat.pos_of_ne_zero (by simp);obtain⟨a1,s1,w,hw,q1,q2,e⟩:=ja8 hb [[88],[89],[90],[97],[98],[88],[97]] (by decide) (by decide) (by decide) a s h0 (by omega);have e:yV (kP code) (vi a) (vu s) [[sv [88]],[sv [89]],[sv [90]],[sv [97]],[sv [98]],[sv [88]],[sv [97]]]=some (.top,[kP code,vi a1,vu s1,sv w]):=e;refine⟨a1,s1,.mk w [],q1,by omega,⟨by rw[zp];simp[kM];omega,nm0 hw.2⟩,?_⟩;rw[qR];simp only[jk,hd,e,List.getElem?_cons_zero,List.getElem?_cons_succ,z6];rfl
 intro d;induction d with
 |zero=>intro _ qx hd _ a s h0 h1;exact base 0 qx (by omega) a s h0 h1
 |succ d ih=>
  intro hdd qx hd hd' a s h0 h1;by_cases hle:qx<=1
  .exact base (d+1) qx hle a s h0 h1
  have hp:1<=4 ^ d:=Nat.pos_of_ne_zero (by simp);rw[Nat.pow_succ]at h1⊢;generalize 4 ^ d=P at *;obtain⟨a1,s1,b1,q1,q2,e1⟩:=JA hb 3 (by decide) (by decide) a s h0 (by omega);cases b1 with
  |true=>
   obtain⟨a2,s2,w,hw,r1,r2,e⟩:=ja8 hb [[88],[89],[90],[97],[98],[88],[97]] (by decide) (by decide) (by decide) a1 s1 (by omega) (by omega);have e:yV (kP code) (vi a1) (vu s1) [[sv [88]],[sv [89]],[sv [90]],[sv [97]],[sv [98]],[sv [88]],[sv [97]]]=some (.top,[kP code,vi a2,vu s2,sv w]):=e;refine⟨a2,s2,.mk w [],by omega,by omega,⟨by rw[zp];simp[kM];omega,nm0 hw.2⟩,?_⟩;rw[qR];simp only[jk,hle,e1,e,List.getElem?_cons_zero,List.getElem?_cons_succ,z6];rfl
  |false=>
   obtain⟨a2,s2,b2,r1,r2,e2⟩:=JA hb 2 (by decide) (by decide) a1 s1 (by omega) (by omega);have c1:ck (qx-1)=some (vi (qx-1)):=ko (by omega) (by omega);obtain⟨a3,s3,t3,u1,u2,u3,e3⟩:=ih (by omega) (qx-1) (by omega) (by omega) a2 s2 (by omega) (by omega);cases b2 with
   |true=>
    refine⟨a3,s3,.mk [102] [t3],by omega,by omega,⟨by rw[zp];simp[kM];omega,nm1 (by decide) u3.2⟩,?_⟩
    rw[qR];simp only[jk,hle,e1,e2,c1,e3,List.getElem?_cons_zero,List.getElem?_cons_succ,z6];rw[<-jp1];rfl
   |false=>
    obtain⟨a4,s4,t4,v1,v2,v3,e4⟩:=ih (by omega) (qx-1) (by omega) (by omega) a3 s3 (by omega) (by omega);refine⟨a4,s4,.mk [103] [t3,t4],by omega,by omega,⟨by rw[zp];simp[kM];omega,nm2 (by decide) u3.2 v3.2⟩,?_⟩;rw[qR];simp only[jk,hle,e1,e2,c1,e3,e4,List.getElem?_cons_zero,List.getElem?_cons_succ,z6];rw[<-ji9];rfl
theorem Qt(a s:Int)(h0:0<=a)(h1:a<=999999000):TD code 192 193 a (ZT (kP code) (vi a) (vu s)):=by
 obtain⟨a1,s1,x,q1,q2,x0,x1,e1⟩:=zf hb 3 (by decide) (by decide) a s h0 (by omega);have c1:ck (1+x)=some (vi (1+x)):=ko (by omega) (by omega);obtain⟨a2,s2,t,r1,r2,r3,e2⟩:=jmM hb 3 (by decide) (1+x) (by omega) (by omega) a1 s1 (by omega) (by omega);refine⟨a2,s2,t,by omega,by omega,r3,?_⟩;rw[jqi];simp only[jk,e1,c1,e2,List.getElem?_cons_zero,List.getElem?_cons_succ,z6]
theorem joc(d:Nat)(hd:d<=20)(a s:Int)(h0:0<=a)(h1:a<=999990000):TD code 60 1 a (jhX (vi (d:Nat)) (kP code) (vi a) (vu s)):=by
 obtain⟨a1,s1,w,hw,q1,q2,e⟩:=ja8 hb [[88],[97]] (by decide) (by decide) (by decide) a s h0 (by omega);have e:yV (kP code) (vi a) (vu s) [[sv [88]],[sv [97]]]=some (.top,[kP code,vi a1,vu s1,sv w]):=e;have loop:∀(k:Nat)(t:T)(x1:A)(r0:Xc),k<=20-> ∃u,(tsz u<=tsz t+2*k/\(Yl t=true->Yl u=true))/\JG (vi (k:Nat)) x1 (sv t.name) (kP code) (vi a1) (vu s1) r0 (t.args.map jl)=some (.top,[kP code,vi a1,vu s1,sv (T.name u),zR (T.args u)]):=by
  intro k;induction k with
  |zero=>
   intro t x1 r0 _;refine⟨t,⟨by omega,id⟩,?_⟩;have h:¬(1:Int)<((0:Nat):Int):=by omega
   rw[jb5];simp only[jk,h]
  |succ k ih=>
   intro t x1 r0 hk;by_cases h:(1:Int)<((k+1:Nat):Int)
   .obtain ⟨u,hu,eu⟩:=ih (.mk [102] [t]) x1 r0 (by omega);rw[zp]at hu;simp only[List.length_cons,List.length_nil,kM]at hu;refine⟨u,⟨by omega,λh=>hu.2 (nm1 (by decide) h)⟩,?_⟩;have c1:ck (((k+1:Nat):Int)-1)=some (vi (k:Nat)):=by rw[show((k+1:Nat):Int)-1=(k:Nat) by omega];exact ko (by omega) (by omega)
    have eu:JG (vi (k:Nat)) x1 (sv [102]) (kP code) (vi a1) (vu s1) r0 [jl t]=_:=eu;rw[jI]at eu;rw[jb5];simp only[jk,h,c1,eu]
   .refine ⟨t,⟨by omega,id⟩,?_⟩;rw[jb5];simp only[jk,h]
 obtain⟨u,hu,eu⟩:=loop d (.mk w []) (sv []) [] hd;rw[zp]at hu;simp only[List.length_nil,kM]at hu;refine⟨a1,s1,u,q1,q2,⟨by omega,hu.2 (nm0 hw.2)⟩,?_⟩;have eu:JG (vi (d:Nat)) (sv []) (sv w) (kP code) (vi a1) (vu s1) [] []=_:=eu;rw[jrk];simp only[jk,e,List.getElem?_cons_zero,List.getElem?_cons_succ,eu,z6]
end
abbrev nbs(vs:Xi):A:= .sl 1 (vs.map ci)
section
variable{code:Xi}(hb:By code)
include hb
end
abbrev Env:=List (Xb×Int)
abbrev ev(E:Env):A:= .agg [.sl 1 (E.map λp=>cs p.1),.sl 1 (E.map λp=>ci p.2)]
def jw4(E:Env)(n:Xb):Int:=E.foldl (λa p=>if p.1=n then p.2 else a) 0
section
variable{code:Xi}(hb:By code)
include hb
end
def jwE(s:Nat)(names:Xa)(k:Nat):Env:=names.zip ((dec s names.length k).map λv=>((v:Nat):Int))
section
variable{code:Xi}(hb:By code)
include hb
end
def R3(S:Xa)(r:T):Prop:=r.name=[61]/\r.args.length=2/\Tz r/\(zy (jit r)=true/\VIn S (jit r))/\zy (jiU r)=true/\VIn S (jiU r)
section
variable{code:Xi}(hb:By code)
include hb
end
theorem jhQ(n m:Xb)(ts us:Xg)(hl:ts.length<=9223372036854775807)(hlen:ts.length=us.length)(ih:∀t∈ts,∀u∈us,G 24 [tm t,tm u]=some (vb (dq t u),[])) :
  ∀i,i<=ts.length->jjr (vi i) (sv n) (zR ts) (sv m) (zR us)=some (vb (dq (ts.drop i) (us.drop i)),[]):=by
 refine upto ?_ ?_
 .rw [jqy,List.drop_length,hlen,List.drop_length,jeX];simp only[jk,hlen]
 .intro i hi ih';have hlt:(i:Int)<((ts.length:Nat):Int):=by omega
  have hi2:i<us.length:=by omega
  have h5:=j6 hi hl;have e1:=ih ts[i] (List.getElem_mem _) us[i] (List.getElem_mem _);rw[jqy,jL hi,jL hi2,joN];cases hp:dq ts[i] us[i]<;>rw[hp]at e1
  .simp only[jk,hlt,jf hi,jf hi2,jp,e1,Bool.false_and]
  .simp only[jk,hlt,jf hi,jf hi2,jp,e1,h5,ih',Bool.true_and]
theorem jlY:∀s:T,twf s-> ∀t:T,twf t->G 24 [tm s,tm t]=some (vb (dq s t),[]):=by
 refine T.ind λs ih hw t hw'=>?_;obtain⟨w1,w2,w3⟩:=(yg s).1 hw;have w3:=(zv _).1 w3;obtain⟨v1,v2,v3⟩:=(yg t).1 hw';have v3:=(zv _).1 v3;rw[g24,juT];by_cases hn:s.name=t.name
 .by_cases hlen:s.args.length=t.args.length
  .have key:=jhQ t.name t.name s.args t.args w2 hlen (λa ha b hb=>ih a ha (w3 a ha) b (v3 b hb)) 0 (Nat.zero_le _);simp only[Int.natCast_zero,List.drop_zero]at key;simp only[jk,hn,hlen,key,Bool.true_and]
  .have hlen':¬((s.args.length:Nat):Int)=((t.args.length:Nat):Int):=by omega
   simp only[jk,hn,hlen',jrx hlen,Bool.and_false]
 .simp only[jk,hn,Bool.false_and]
end Go.Proofs.YteoaojbmnibpcaaGreatDoor
