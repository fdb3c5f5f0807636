/- Pd -/
import Derived.Test.YtkkcepmpbackoaaGreatDoorPb
import Derived.Test.YtkkcepmpbackoaaGreatDoorPq
namespace Go.Proofs.YtkkcepmpbackoaaGreatDoor
open Go Go.RowKit Go.Proofs.YtkkcepmpbackoaaGreatDoor.Abs
set_option linter.unusedSimpArgs false
set_option linter.unusedVariables false
set_option maxHeartbeats 1000000
theorem jia(x y:Xb):(zz x y || decide (x=y))=!zz y x:=by
 rw[Q3,Q3];by_cases h1:x<y
 .rw [decide_eq_true h1,decide_eq_false (λh2=>List.lt_irrefl _ (List.lt_trans h1 h2))];rfl
 .by_cases h2:x=y
  .subst h2;rw[decide_eq_false h1,decide_eq_true rfl];rfl
  .rw [decide_eq_false h1,decide_eq_false h2,decide_eq_true (jwq h1 h2)];rfl
theorem joy(b:Bool)(x y:Xb):jq .leq b (sv x) (sv y)=some (vb (!zz y x)):=by rw[<-jia];rfl
theorem jox(b:Bool)(x y:Xb):jq .geq b (sv x) (sv y)=some (vb (!zz x y)):=rfl
def Qh:Option Xb->ju->Bool
 |_,[]=>true
 |none,q::r=>jr q.1 && (kV q.2 && (!decide (q.2.name=q.1) && Qh (some q.1) r))
 |some m,q::r=>zz m q.1 && (jr q.1 && (kV q.2 && (!decide (q.2.name=q.1) && Qh (some q.1) r)))
def okB(q:Xb×T):Bool:=jr q.1 && (kV q.2 && !decide (q.2.name=q.1))
theorem jgI:∀(s:ju)(m:Xb)(t:T),Qh (some m) s=(jiG ((m,t)::s) && s.all okB)
 | [],m,t=>rfl
 |q::r,m,t=>by
  rw[Qh,jgI r q.1 q.2,jiG,List.all_cons,okB];cases zz m q.1<;>cases jr q.1<;>cases kV q.2<;>cases decide (q.2.name=q.1)<;>simp
theorem jgH(s:ju):(Qh none s && decide (s.length<=12))=jB s:=by
 have hd:∀q:Xb×T,dq q.2.name q.1=decide (q.2.name=q.1):=λq=>by
  by_cases h:q.2.name=q.1
  .rw [Kw.2 h,decide_eq_true h]
  .rw [jiR.2 h,decide_eq_false h]
 have ha:s.all (λq=>jr q.1 && (kV q.2 && !dq q.2.name q.1))=s.all okB:=by
  unfold okB;congr 1;funext q;rw[hd]
 unfold jB;rw[ha];cases s with
 |nil=>rfl
 |cons q r=>
  rw[Qh,jgI r q.1 q.2,List.all_cons];unfold okB;cases jr q.1<;>cases kV q.2<;>cases decide (q.2.name=q.1)<;>simp[Bool.and_comm]
def SzB(s:ju):Prop:=s.length<=1000000/\ ∀q∈s,q.1.length<=1000000/\Tz q.2
theorem SzB.sz{s:ju}(h:SzB s):Sz 1048576 s:=⟨by have:=h.1;omega,λq hq=>⟨by have:=(h.2 q hq).1;omega,(h.2 q hq).2⟩⟩
theorem zB{s:ju}(h:jB s=true):SzB s:=by
 obtain⟨h1,_,h3⟩:=jI h;refine⟨by omega,λq hq=>⟨?_,?_⟩⟩
 .have:=jfc (h3 q hq).1;omega
 .have:=jev q.2 (Qe (h3 q hq).2.1);have:=JQ h q hq;unfold Tz;omega
theorem Jx(q:Xb×T):kr 3 (.elt (bc q) 0)=some (.agg [sv q.1,sv q.2.name,jS q.2.args]):=rfl
theorem jgL(s:ju)(hs:SzB s):G 150 [sb s]=some (vb (jB s),[]):=by
 have hl:=hs.1;have key:=upto (P:=λi=>∀p:Option Xb,(p=none↔i=0)->(∀m,p=some m-> ∃h:i-1<s.length,s[i-1].1=m)->jg9 (JY s) (vi (s.length:Nat)) (vi (i:Nat)) (JY s)=some (vb (Qh p (s.drop i) && decide (s.length<=12)),[])) (n:=s.length) ?_ ?_ 0 (Nat.zero_le _) none (by simp) (λm h=>by cases h)
 .simp only[Int.natCast_zero,List.drop_zero]at key;rw[jgH]at key;rw[jzZ];simp only[jg,key]
 .intro p _ _;have e:decide (((s.length:Nat):Int)<=12)=decide (s.length<=12):=by congr 1;exact propext (by omega)
  have:Qh p []=true:=by cases p<;>rfl
  rw[jqW,List.drop_length,this,Bool.true_and,<-e];simp only[jg]
 .intro i hi ih p hp hq;have hlt:(i:Int)<((s.length:Nat):Int):=by omega
  have h5:=jy hi (by show s.length<=9223372036854775807;omega)
  have hm:=hs.2 _ (List.getElem_mem hi);have e1:=Qs s[i].1 (by show s[i].1.length<=9223372036854775807;omega);have e2:=Ye s[i].2 hm.2.wf hm.2;have ih:=ih (some s[i].1) (by simp) (λm h=>by cases h;exact⟨by simpa using hi,rfl⟩);rw[jqW,js hi];have e3:decide (s[i].2.name=s[i].1)=decide (s[i].2.name=s[i].1):=rfl;generalize hn:decide (s[i].2.name=s[i].1)=nn at *;have e4:jq .eql false (sv s[i].2.name) (sv s[i].1)=some (vb nn):=by rw[jbS,hn]
  generalize hv:Qh (some s[i].1) (s.drop (i+1))=vv at *;cases p with
  |none=>
   have h0:¬(0:Int)<(i:Int):=by have:=hp.1 rfl;omega
   rw[Qh,hn,hv];cases hb:jr s[i].1<;>rw[hb]at e1
   .simp only[jg,hlt,jb hi,Jx,e1,Bool.false_and]
   cases hk:kV s[i].2<;>rw[hk]at e2
   .simp only[jg,hlt,jb hi,Jx,e1,e2,h0,Bool.false_and,Bool.true_and]
   cases nn
   .simp only[jg,hlt,jb hi,Jx,e1,e2,h0,e4,h5,ih,Bool.true_and]
   .simp only[jg,hlt,jb hi,Jx,e1,e2,h0,e4,Bool.false_and,Bool.true_and]
  |some m=>
   obtain⟨hq1,rfl⟩:=hq m rfl;have h0:(0:Int)<(i:Int):=by
    have:¬i=0:=λh=>by have:=hp.2 h;cases this
    omega
   have c1:ck ((i:Int)-1)=some (vi ((i-1:Nat):Int)):=by rw[show(i:Int)-1=((i-1:Nat):Int) by omega];exact jZ (by omega) (by omega)
   have e5:=joy false s[i].1 s[i-1].1;rw[Qh,hn,hv];cases hb:jr s[i].1<;>rw[hb]at e1
   .rw [Bool.false_and,Bool.and_false];simp only[jg,hlt,jb hi,Jx,e1,Bool.false_and]
   cases hc:zz s[i-1].1 s[i].1<;>rw[hc]at e5
   .simp only[jg,hlt,jb hi,jb hq1,Jx,e1,h0,c1,e5,Bool.false_and]
   cases hk:kV s[i].2<;>rw[hk]at e2
   .simp only[jg,hlt,jb hi,jb hq1,Jx,e1,h0,c1,e5,e2,Bool.false_and,Bool.true_and]
   cases nn
   .simp only[jg,hlt,jb hi,jb hq1,Jx,e1,h0,c1,e5,e2,e4,h5,ih,Bool.true_and]
   .simp only[jg,hlt,jb hi,jb hq1,Jx,e1,h0,c1,e5,e2,e4,Bool.false_and,Bool.true_and]
theorem Qd(s:ju)(hs:SzB s):G 136 [sb s]=some (vb (jB s),[]):=by
 have hl:=hs.1;have key:=upto (P:=λi=>∀p:Option Xb,(p=none↔i=0)->(∀m,p=some m-> ∃h:i-1<s.length,s[i-1].1=m)->jg5 (vi (i:Nat)) (JY s)=some (vb (Qh p (s.drop i) && decide (s.length<=12)),[])) (n:=s.length) ?_ ?_ 0 (Nat.zero_le _) none (by simp) (λm h=>by cases h)
 .simp only[Int.natCast_zero,List.drop_zero]at key;rw[jgH]at key;rw[jzO];simp only[jg,key]
 .intro p _ _;have e:decide (((s.length:Nat):Int)<=12)=decide (s.length<=12):=by congr 1;exact propext (by omega)
  have:Qh p []=true:=by cases p<;>rfl
  rw[jqP,List.drop_length,this,Bool.true_and,<-e];simp only[jg]
 .intro i hi ih p hp hq;have hlt:(i:Int)<((s.length:Nat):Int):=by omega
  have h5:=jy hi (by show s.length<=9223372036854775807;omega)
  have hm:=hs.2 _ (List.getElem_mem hi);have e1:=yc s[i].1 (by show s[i].1.length<=9223372036854775807;omega);have e2:=YV s[i].2 hm.2.wf hm.2;have ih:=ih (some s[i].1) (by simp) (λm h=>by cases h;exact⟨by simpa using hi,rfl⟩);rw[jqP,js hi];generalize hn:decide (s[i].2.name=s[i].1)=nn at *;have e4:jq .eql false (sv s[i].2.name) (sv s[i].1)=some (vb nn):=by rw[jbS,hn]
  generalize hv:Qh (some s[i].1) (s.drop (i+1))=vv at *;cases p with
  |none=>
   have h0:¬(0:Int)<(i:Int):=by have:=hp.1 rfl;omega
   rw[Qh,hn,hv];cases hb:jr s[i].1<;>rw[hb]at e1
   .simp only[jg,hlt,jb hi,Jx,e1,Bool.false_and]
   cases hk:kV s[i].2<;>rw[hk]at e2
   .simp only[jg,hlt,jb hi,Jx,e1,e2,Bool.false_and,Bool.true_and]
   cases nn
   .simp only[jg,hlt,jb hi,Jx,e1,e2,h0,e4,h5,ih,Bool.true_and]
   .simp only[jg,hlt,jb hi,Jx,e1,e2,e4,Bool.false_and,Bool.true_and]
  |some m=>
   obtain⟨hq1,rfl⟩:=hq m rfl;have h0:(0:Int)<(i:Int):=by
    have:¬i=0:=λh=>by have:=hp.2 h;cases this
    omega
   have c1:ck ((i:Int)-1)=some (vi ((i-1:Nat):Int)):=by rw[show(i:Int)-1=((i-1:Nat):Int) by omega];exact jZ (by omega) (by omega)
   have e5:=jox false s[i-1].1 s[i].1;rw[Qh,hn,hv];cases hb:jr s[i].1<;>rw[hb]at e1
   .rw [Bool.false_and,Bool.and_false];simp only[jg,hlt,jb hi,Jx,e1,Bool.false_and]
   cases hk:kV s[i].2<;>rw[hk]at e2
   .rw [Bool.false_and,Bool.and_false,Bool.and_false];simp only[jg,hlt,jb hi,Jx,e1,e2,Bool.false_and]
   cases nn
   .cases hc:zz s[i-1].1 s[i].1<;>rw[hc]at e5
    .simp only[jg,hlt,jb hi,jb hq1,Jx,e1,h0,c1,e5,e2,e4,Bool.false_and]
    .simp only[jg,hlt,jb hi,jb hq1,Jx,e1,h0,c1,e5,e2,e4,h5,ih,Bool.true_and]
   .rw [Bool.not_true,Bool.false_and,Bool.and_false,Bool.and_false,Bool.and_false];simp only[jg,hlt,jb hi,Jx,e1,e2,e4,Bool.false_and]
theorem jrW{α:Type}{R:α->α->Prop}(irr:∀a,¬R a a)(asy:∀a b,R a b-> ¬R b a):∀{l m:List α},l.Pairwise R->m.Pairwise R->(∀x,x∈l↔x∈m)->l=m
 | [],[],_,_,_=>rfl
 | [],b::m,_,_,hx=>absurd ((hx b).2 (by simp)) (by simp)
 |a::l,[],_,_,hx=>absurd ((hx a).1 (by simp)) (by simp)
 |a::l,b::m,h1,h2,hx=>by
  obtain⟨g1,g2⟩:=List.pairwise_cons.1 h1;obtain⟨k1,k2⟩:=List.pairwise_cons.1 h2;have hab:a=b:=by
   rcases List.mem_cons.1 ((hx a).1 (by simp))with e|e
   .exact e
   rcases List.mem_cons.1 ((hx b).2 (by simp))with e'|e'
   .exact e'.symm
   .exact (asy _ _ (k1 a e) (g1 b e')).elim
  subst hab;have:l=m:=jrW irr asy g2 k2 λx=>by
   constructor
   .intro hxl;rcases List.mem_cons.1 ((hx x).1 (by simp[hxl]))with e|e
    .exact (irr x (e ▸ g1 x hxl)).elim
    .exact e
   .intro hxm;rcases List.mem_cons.1 ((hx x).2 (by simp[hxm]))with e|e
    .exact (irr x (e ▸ k1 x hxm)).elim
    .exact e
  rw[this]
theorem Zi{x y z:Xb}(h1:zz x y=true)(h2:zz y z=true):zz x z=true:=by
 rw[Q3,decide_eq_true_eq]at *;exact List.lt_trans h1 h2
theorem jhs:∀{s:ju},jiG s=true->s.Pairwise λp q=>zz p.1 q.1=true
 | [],_=>List.Pairwise.nil
 | [p],_=>by simp
 |p::q::s,h=>by
  rw[jiG,Bool.and_eq_true]at h;have ih:=jhs h.2;refine List.pairwise_cons.2 ⟨λx hx=>?_,ih⟩;rcases List.mem_cons.1 hx with e|e
  .rw [e];exact h.1
  .exact Zi h.1 ((List.pairwise_cons.1 ih).1 x e)
theorem jxY{m:Nat}(h:m<=2000000):jaW .u64 (vi (m:Nat))=some (.val (.int .u64 (m:Nat))):=by
 show some (A.val (.int .u64 (IntKind.u64.wrap (m:Nat))))=_;have:IntKind.u64.wrap ((m:Nat):Int)=(m:Nat):=by
  unfold IntKind.wrap;simp[IntKind.bits,IntKind.signed];omega
 rw[this]
theorem jxZ{m:Nat}(h:m<=2000000):jq .shr false (.val (.int .u64 (m:Nat))) (.val (.int .u64 1))=some (.val (.int .u64 ((m / 2:Nat):Int))):=by
 show some (A.val (.int .u64 (((m:Nat):Int).fdiv (2 ^ min 1 64))))=_;rw[Int.fdiv_eq_ediv_of_nonneg _ (by decide)];rfl
theorem jx0{m:Nat}(h:m<=2000000):jaW .i64 (.val (.int .u64 (m:Nat)))=some (vi (m:Nat)):=jZ (by omega) (by omega)
theorem jmN(x y:Xb):kz x y<0↔zz x y=true:=by
 unfold kz;cases h:zz x y with
 |true=>simp
 |false=>
  rw[if_neg Bool.false_ne_true];split<;>simp
theorem jky(q:Xb×T)(n:Xb):G 191 [.agg (bc q),sv n]=some (vi (kz q.1 n),[]):=by
 have e:=Z7 q.1 n;rw[jAk];simp only[jg,e]
theorem jcA{s:ju}(hs:s.Pairwise λp q=>zz p.1 q.1=true){n:Xb}{i:Nat}(h1:∀k,(h:k<s.length)->k<i->zz s[k].1 n=true)(h2:∀k,(h:k<s.length)->i<=k->zz s[k].1 n=false):look s n=if h:i<s.length then(if s[i].1=n then some s[i].2 else none)else none:=by
 have hne:∀k,(h:k<s.length)->k≠i->s[k].1≠n:=λk h hk e=>by
  rcases Nat.lt_or_ge k i with hl|hl
  .have:=h1 k h hl;rw[e,Y6]at this;cases this
  .have hi:i<k:=by omega
   have:=(List.pairwise_iff_getElem.1 hs) i k (by omega) h hi;rw[e]at this;rw[h2 i (by omega) (Nat.le_refl _)]at this;cases this
 split
 .rename_i hi;split
  .rename_i he;have hm:(n,s[i].2)∈s:=by rw[<-he];exact List.getElem_mem hi
   cases hl:look s n with
   |none=>exact(qK.1 hl _ hm rfl).elim
   |some r=>
    obtain⟨k,hk,e⟩:=List.mem_iff_getElem.1 (Zz hl);have:k=i:=Classical.byContradiction λh=>hne k hk h (by rw[e]);subst this;rw[e]
  .rename_i he;refine qK.2 λp hp=>?_;obtain⟨k,hk,rfl⟩:=List.mem_iff_getElem.1 hp;by_cases h:k=i
   .subst h;exact he
   .exact hne k hk h
 .rename_i hi;refine qK.2 λp hp=>?_;obtain⟨k,hk,rfl⟩:=List.mem_iff_getElem.1 hp;exact hne k hk (by omega)
theorem jkp(s:ju)(hl:s.length<=1000000)(hs:s.Pairwise λp q=>zz p.1 q.1=true)(n:Xb):∀(d i j:Nat),j-i<=d->i<=j->j<=s.length->(∀k,(h:k<s.length)->k<i->zz s[k].1 n=true)->(∀k,(h:k<s.length)->j<=k->zz s[k].1 n=false)->
  ∃(i':Nat)(b:Bool),jdz (JY s) (sv n) (.fn 191 []) (vi (s.length:Nat)) (vi (i:Nat)) (vi (j:Nat))=some (.tup [vi (i':Nat),vb b],[])/\look s n=(if h:i'<s.length then(if b then some s[i'].2 else none)else none)/\(b=true->i'<s.length):=by
 intro d;induction d with
 |zero=>
  intro i j hd hij hj h1 h2;have hij:i=j:=by omega
  subst hij;have hlt:¬(i:Int)<(i:Int):=by omega
  have hp:K.pureF 191=true:=rfl;rw[jq6];by_cases hi:i<s.length
  .have hi':(i:Int)<((s.length:Nat):Int):=by omega
   have cc:DX.run K (MM K) (.callc (.fn 191 []) [.agg (bc s[i]),sv n] false)=some (vi (kz s[i].1 n)):=by
    rw[Je hp,List.append_nil,jky];rfl
   refine⟨i,decide (s[i].1=n),?_,?_,λ_=>hi⟩
   .have hz:decide (kz s[i].1 n=0)=decide (s[i].1=n):=decide_eq_decide.2 (Jg.zero _ _);rw[<-hz];simp only[jg,hlt,hi',jb hi,Jx,cc]
   .rw [jcA hs h1 h2,dif_pos hi,dif_pos hi];by_cases he:s[i].1=n
    .rw [if_pos he,decide_eq_true he,if_pos rfl]
    .rw [if_neg he,decide_eq_false he,if_neg Bool.false_ne_true]
  .have hi':¬(i:Int)<((s.length:Nat):Int):=by omega
   refine⟨i,false,?_,?_,λh=>by cases h⟩
   .simp only[jg,hlt,hi']
   .rw [jcA hs h1 h2,dif_neg hi,dif_neg hi]
 |succ d ih=>
  intro i j hd hij hj h1 h2;by_cases hlt0:i<j;rotate_left
  .exact ih i j (by omega) hij hj h1 h2
  have hlt:(i:Int)<(j:Int):=by omega
  have hp:K.pureF 191=true:=rfl;have hm:(i+j) / 2<s.length:=by omega
  have c0:ck ((i:Int)+(j:Int))=some (vi ((i+j:Nat):Int)):=jZ (by omega) (by omega);have c1:=jxY (m:=i+j) (by omega);have c2:=jxZ (m:=i+j) (by omega);have c3:=jx0 (m:=(i+j) / 2) (by omega);have cc:DX.run K (MM K) (.callc (.fn 191 []) [.agg (bc s[(i+j) / 2]),sv n] false)=some (vi (kz s[(i+j) / 2].1 n)):=by
   rw[Je hp,List.append_nil,jky];rfl
  have ix:=jb (k:=3) (f:=bc) hm;have hpw:=List.pairwise_iff_getElem.1 hs;rw[jq6];have hc:=jmN s[(i+j) / 2].1 n;generalize hg:kz s[(i+j) / 2].1 n=c at *;generalize hme:(i+j) / 2=m at *;by_cases hneg:c<0
  .have hs1:=hc.1 hneg;have h5:ck ((m:Int)+1)=some (vi ((m+1:Nat):Int)):=jZ (by omega) (by omega);have:=ih (m+1) j (by omega) (by omega) hj (λk hk hk2=>by
    by_cases e:k=m
    .subst e;exact hs1
    .exact Zi (hpw k m hk hm (by omega)) hs1) h2
   obtain⟨i',b,e1,e2⟩:=this;exact⟨i',b,by simp only[jg,hlt,c0,c1,c2,c3,ix,Jx,cc,hneg,h5];exact e1,e2⟩
  .have hs1:zz s[m].1 n=false:=by
    cases h:zz s[m].1 n with
    |false=>rfl
    |true=>exact(hneg (hc.2 h)).elim
   have:=ih i m (by omega) (by omega) (by omega) h1 (λk hk hk2=>by
    by_cases e:k=m
    .subst e;exact hs1
    .cases h:zz s[k].1 n with
     |false=>rfl
     |true=>rw[Zi (hpw m k hm hk (by omega)) h]at hs1;cases hs1)
   obtain⟨i',b,e1,e2⟩:=this;exact⟨i',b,by simp only[jg,hlt,c0,c1,c2,c3,ix,Jx,cc,hneg];exact e1,e2⟩
def outT(o:Option T):Xe:=match o with|some t=>some (.tup [tm t,vb true],[])|none=>some (.tup [.agg [sv [],.sl 2 []],vb false],[])
theorem je4(s:ju)(hs:jB s=true)(n:Xb):G 151 [sb s,sv n]=outT (look s n):=by
 have hl:=(jI hs).1;obtain⟨i,b,e1,e2,e3⟩:=jkp s (by omega) (jhs (jI hs).2.1) n s.length 0 s.length (by omega) (Nat.zero_le _) (Nat.le_refl _) (λk _ h=>by omega) (λk h1 h2=>by omega);simp only[Int.natCast_zero]at e1;have e4:G 190 [JY s,sv n,.fn 191 []]=some (.tup [vi (i:Nat),vb b],[]):=by
  rw[jAj];simp only[jg,e1]
 rw[jz0,e2];cases b with
 |false=>
  have:(if h:i<s.length then(if false=true then some s[i].2 else none)else none)=(none:Option T):=by split<;>simp
  rw[this];simp only[jg,e4];rfl
 |true=>
  have hi:=e3 rfl;rw[dif_pos hi,if_pos rfl];simp only[jg,e4,jb hi,ZC];rfl
theorem jfH(s:ju)(hs:jB s=true):∀t:T,Rx' t->Tz t->G 127 [sb s,tm t]=some (tm (sub s t),[]):=by
 refine T.ind λt ih hk ht=>?_;have hz:=ht;unfold Tz at hz;rw[ze]at hz;rw[jzL];by_cases ha:t.args=[]
 .have e1:=je4 s hs t.name;have h0:zG (jS t.args)=some (vi 0):=by rw[ha];rfl
  cases hl:look s t.name with
  |some r=>
   rw[hl]at e1;have e1:G 151 [sb s,sv t.name]=some (.tup [tm r,vb true],[]):=e1;have hv:jr t.name=true:=((jI hs).2.2 _ (Zz hl)).1;have e2:=jfO r ((zB hs).2 _ (Zz hl)).2;have:sub s t=r:=by rw[KI hv,jc1,hl];rfl
   rw[this];simp only[jg,h0,e1,e2]
  |none=>
   rw[hl]at e1;have e1:G 151 [sb s,sv t.name]=some (.tup [.agg [sv [],.sl 2 []],vb false],[]):=e1;have:sub s t = .mk t.name []:=by
    cases hv:jr t.name with
    |true=>rw[KI hv,jc1,hl];rfl
    |false=>rw[Jb hv,ha];rfl
   rw[this];simp only[jg,h0,e1];rfl
 .have hv:jr t.name=false:=by
   cases hv:jr t.name with
   |false=>rfl
   |true=>exact(ha (hk.va hv)).elim
  have hpos:0<t.args.length:=by
   cases h:t.args with
   |nil=>exact(ha h).elim
   |cons _ _=>simp
  have h0:¬((t.args.length:Nat):Int)=0:=by omega
  rw[Jb hv];generalize hus:t.args.map (sub s)=us at *;have hul:us.length=t.args.length:=by rw[<-hus,List.length_map]
  have hm:=Y1 (b:=40) (n:=t.args.length) (by omega) (by omega);have hz0:(0:Int)<((t.args.length:Nat):Int):=by omega
  have step:∀i,(hi:i<t.args.length)->G 127 [sb s,tm t.args[i]]=some (tm (us[i]'(by omega)),[]):=λi hi=>by
   rw[ih t.args[i] (List.getElem_mem _) (hk.args _ (List.getElem_mem _)) (ht.args _ (List.getElem_mem _))];simp only[<-hus,List.getElem_map]
  have stepR:∀i,(hi:i<t.args.length)->ZB (part jm [sv [],.sl 2 []] us i).length (vi (i:Nat))=some i/\ZY (part jm [sv [],.sl 2 []] us i) i=some [sv [],.sl 2 []]/\yh (part jm [sv [],.sl 2 []] us i) i [sv (us[i]'(by omega)).name,jS (us[i]'(by omega)).args]=part jm [sv [],.sl 2 []] us (i+1):=λi hi=>by
   have h4:=ja3 (f:=jm) (z:=[sv [],.sl 2 []]) (xs:=us) (i:=i) (by omega);rw[kR]at h4;refine⟨zR (by rw[KE (by omega)];omega),ja2 (by omega),h4⟩
  have key:=(upto (P:=λi=>1<=i->jkV (jS t.args) (vi (t.args.length:Nat)) (vi (i:Nat)) (JY s) (sv []) (sv t.name) [] (part jm [sv [],.sl 2 []] us i)=some (tm (.mk t.name us),[])) (n:=t.args.length) ?_ ?_ 1 hpos (Nat.le_refl _));rotate_left
  .intro _;rw[jqL,<-hul,ja1];simp only[jg];rfl
  .intro i hi ih' _;have hlt:(i:Int)<((t.args.length:Nat):Int):=by omega
   have h5:=jy hi (by show t.args.length<=9223372036854775807;omega)
   have e2:=step i hi;obtain⟨h2,h3,h4⟩:=stepR i hi;have ih':=ih' (by omega);rw[jqL];simp only[jg,hlt,jb hi,ji,e2,h2,h3,jc9,h4,h5,ih']
  have e2:=step 0 hpos;obtain⟨h2,h3,h4⟩:=stepR 0 hpos;rw[<-Y2]at h2 h3 h4;simp only[Int.natCast_zero,Nat.zero_add]at h2 h4 key;have ix:=jb (k:=2) (f:=jm) hpos;simp only[Int.natCast_zero]at ix;have h5:ck (0+1)=some (vi ((1:Nat):Int)):=jZ (n:=0+1) (by omega) (by omega);have first:jkU (jS t.args) (vi (t.args.length:Nat)) (vi 0) (JY s) (sv []) (sv t.name) (JM us.length [sv [],.sl 2 []]) []=some (tm (.mk t.name us),[]):=by
   rw[jwm];simp only[jg,hz0,ix,ji,e2,h2,h3,jc9,h4,h5,key]
  rw[hul]at first
  simp only[jg,h0,hm,first]
theorem jwP(s:ju):∀t:T,Rx' t->nodes t<=nodes (sub s t)/\Ko t<=Ko (sub s t):=by
 refine T.ind λt ih hk=>?_;cases hv:jr t.name with
 |true=>
  have ha:=hk.va hv;rw[jU t,Kc t,ha];have:=Zc (sub s t);have:=Kc (sub s t);simp only[jF,KO];omega
 |false=>
  have hL:∀us:Xg,(∀u∈us,nodes u<=nodes (sub s u)/\Ko u<=Ko (sub s u))->jF us<=jF (us.map (sub s))/\KO us<=KO (us.map (sub s)):=by
   intro us;induction us with
   |nil=>intro _;exact⟨Nat.le_refl _,Nat.le_refl _⟩
   |cons v vs ih2=>
    intro h;have h1:=h v (by simp);have h2:=ih2 λw hw=>h w (by simp[hw]);simp only[List.map_cons,jF,KO];omega
  have:=hL t.args λu hu=>ih u hu (hk.args u hu);rw[jU t,Kc t,jU (sub s t),Kc (sub s t),jbm hv];omega
def K0(t:T):Prop:=qb t=true\/(t.name=[61]/\t.args.length=2/\ ∀u∈t.args,qb u=true)
theorem K0.rx{t:T}(h:K0 t):Rx' t:=h.elim Or.inl λh=>Or.inr ⟨h.1,h.2.2⟩
theorem K0.tz{t:T}(h:K0 t)(hn:nodes t<=100000):Tz t:=by
 rcases h with h|h
 .have:=jev t h;unfold Tz;omega
 .unfold Tz;rw[jU]at hn;rw[ze,h.1,h.2.1];have:=jnl h.2.2;simp only[List.length_cons,List.length_nil];omega
theorem K0.sub{s:ju}(hs:jB s=true){t:T}(h:K0 t):K0 (sub s t):=by
 rcases h with h|h
 .exact Or.inl (jb4 (J0 hs) t h)
 .have hvn:jr t.name=false:=by rw[h.1];decide
  right;rw[Jb hvn];refine⟨h.1,by show(t.args.map _).length=2;rw[List.length_map,h.2.1],λu hu=>?_⟩;obtain⟨a,ha,rfl⟩:=List.mem_map.1 hu;exact jb4 (J0 hs) a (h.2.2 a ha)
theorem K0.sub_tz{s:ju}(hs:jB s=true){t:T}(h:K0 t)(hn:nodes t<=3000):Tz (Go.Proofs.YtkkcepmpbackoaaGreatDoor.sub s t):=by
 have:=jo4 (u:=s) (Z:=30) (by decide) (JQ hs) t;exact(h.sub hs).tz (by omega)
theorem jo0{s:ju}{t:T}(h:Rx' t)(hs:jH (sub s t)=true):jH t=true:=by
 have:=jwP s t h;simp only[jH,Bool.and_eq_true,decide_eq_true_eq]at hs⊢;omega
theorem Jd(s:ju)(hs:jB s=true)(t:T)(h:K0 t)(hn:nodes t<=3000):G 82 [sb s,tm t]=outT (if jH (sub s t)then some (sub s t)else none):=by
 have ht:=h.tz (by omega);have hu:=h.sub_tz hs hn;have e1:=jfH s hs t h.rx ht;have e2:=QI (sub s t) hu.wf hu;rw[g82];cases hsm:jH (sub s t)<;>rw[hsm]at e2
 .rw [if_neg Bool.false_ne_true];simp only[jg,e1,e2];rfl
 .rw [if_pos rfl];simp only[jg,e1,e2];rfl
theorem Ku(s:ju)(hs:jB s=true)(t:T)(h:K0 t)(hn:nodes t<=3000):G 90 [sb s,tm t]=outT (if jH (sub s t)then some (sub s t)else none):=by
 have ht:=h.tz (by omega);have hu:=h.sub_tz hs hn;have e0:=Qd s (zB hs);have e1:=jmH ht h;have e2:=QN s (zB hs).sz t ht;have e3:=jmH hu (h.sub hs);rw[hs]at e0;rw[g90];cases hsm:jH (sub s t)<;>rw[hsm]at e3
 .rw [if_neg Bool.false_ne_true];cases hs1:jH t<;>rw[hs1]at e1
  .simp only[jg,e0,e1];rfl
  .simp only[jg,e0,e1,e2,e3];rfl
 .rw [if_pos rfl];rw[jo0 h.rx hsm]at e1;simp only[jg,e0,e1,e2,e3];rfl
abbrev LtB(p q:Xb×T):Prop:=zz p.1 q.1=true
theorem jcJ(n:Xb)(t:T):∀s:ju,s.Pairwise LtB->(∀q∈s,q.1≠n)->(KT s n t).Pairwise LtB
 | [],_,_=>by unfold KT;simp
 |p::s,h,hn=>by
  obtain⟨h1,h2⟩:=List.pairwise_cons.1 h;cases hc:zz p.1 n with
  |true=>
   have e:KT (p::s) n t=p::KT s n t:=by
    unfold KT;rw[List.takeWhile_cons_of_pos (p:=λp:Xb×T=>zz p.1 n) hc,List.dropWhile_cons_of_pos (p:=λp:Xb×T=>zz p.1 n) hc,List.cons_append]
   rw[e];refine List.pairwise_cons.2 ⟨λx hx=>?_,jcJ n t s h2 λq hq=>hn q (by simp[hq])⟩;rcases jeJ.1 hx with hx|hx
   .exact h1 x hx
   .rw [hx];exact hc
  |false=>
   have e:KT (p::s) n t=(n,t)::p::s:=by
    unfold KT;rw[List.takeWhile_cons_of_neg (p:=λp:Xb×T=>zz p.1 n) (by simp[hc]),List.dropWhile_cons_of_neg (p:=λp:Xb×T=>zz p.1 n) (by simp[hc])];rfl
   have hlt:zz n p.1=true:=by
    have h3:=jia n p.1;rw[hc]at h3;have h4:decide (n=p.1)=false:=decide_eq_false λe=>hn p (by simp) e.symm;rw[h4,Bool.or_false]at h3;exact h3
   rw[e];refine List.pairwise_cons.2 ⟨λx hx=>?_,h⟩;rcases List.mem_cons.1 hx with e|e
   .rw [e];exact hlt
   .exact Zi hlt (h1 x e)
theorem ZE:∀(m s:ju),s.Pairwise LtB->(m.map Prod.fst).Nodup->(∀p∈m,∀q∈s,q.1≠p.1)->(m.foldl (λs p=>Ks s p.1 p.2) s).Pairwise LtB
 | [],s,h,_,_=>h
 |p::m,s,h,hn,hd=>by
  rw[List.map_cons,List.nodup_cons]at hn;rw[List.foldl_cons];by_cases he:p.2.name=p.1
  .have:Ks s p.1 p.2=s:=if_pos he;rw[this];exact ZE m s h hn.2 λq hq r hr=>hd q (by simp[hq]) r hr
  .have:Ks s p.1 p.2=KT s p.1 p.2:=if_neg he;rw[this];refine ZE m _ (jcJ p.1 p.2 s h (hd p (by simp))) hn.2 λq hq r hr=>?_;rcases jeJ.1 hr with hr|hr
   .exact hd q (by simp[hq]) r hr
   .rw [hr];intro e;exact hn.1 (List.mem_map.2 ⟨q,hq,e.symm⟩)
theorem QW:∀(m s:ju),m.foldl (λs p=>Ks s p.1 p.2) s=(m.filter λp=> !decide (p.2.name=p.1)).foldl (λs p=>Ks s p.1 p.2) s
 | [],s=>rfl
 |p::m,s=>by
  rw[List.foldl_cons,List.filter_cons];by_cases he:p.2.name=p.1
  .rw [if_neg (by simp[he]),show Ks s p.1 p.2=s from if_pos he];exact QW m s
  .rw [if_pos (by simp[he]),List.foldl_cons];exact QW m _
theorem jic{l s:ju}(hn:(l.map Prod.fst).Nodup)(hk:∀p∈l,p.2.name≠p.1)(hp:s.Perm l)(hs:s.Pairwise λa b=>¬kz b.1 a.1<0):s=QV l:=by
 have h1:=ZE l [] List.Pairwise.nil hn λp _ q h=>by cases h
 have h2:=(KD l [] hk).2;refine jrW (R:=LtB) (λa h=>by unfold LtB at h;rw[Y6]at h;cases h) (λa b h h'=>by have:=Zi h h';rw[Y6]at this;cases this) ?_ h1 λx=>?_
 .have hne:s.Pairwise λa b=>a.1≠b.1:=by
   have:(s.map Prod.fst).Nodup:=(hp.map Prod.fst).nodup_iff.2 hn;rw[List.nodup_iff_pairwise_ne]at this;exact List.pairwise_map.1 this
  refine(hs.and hne).imp λ{a b} h=>?_;have h3:=jia a.1 b.1;rw[decide_eq_false h.2,Bool.or_false]at h3;show zz a.1 b.1=true;rw[h3];cases hc:zz b.1 a.1 with
  |false=>rfl
  |true=>exact(h.1 ((jmN _ _).2 hc)).elim
 .rw [hp.mem_iff];have:=h2 x;simp only[List.not_mem_nil,false_or]at this;exact this.symm
def zE(o:Option ju):Xe:=match o with|some s=>some (.tup [sb s,vb true],[])|none=>some (.tup [.agg [.sl 3 []],vb false],[])
theorem jno{n:Nat}(h:n<=1000000):jO n 56=true:=jtX (by omega)
theorem jrg(p q:Xb×T):G 153 [.agg (bc p),.agg (bc q)]=some (vi (kz p.1 q.1),[]):=by
 have e:=Z7 p.1 q.1;rw[jz1];simp only[jg,e]
def keepB(l:ju):ju:=l.filter λp=> !decide (p.2.name=p.1)
theorem jcF{s:ju}(h:jB s=true):(s.map Prod.fst).Nodup:=by
 rw[List.nodup_iff_pairwise_ne,List.pairwise_map];exact(jhs (jI h).2.1).imp λ{a b} h e=>by rw[e,Y6]at h;cases h
def Ky(s u:ju):ju:=keepB (s.map λq=>(q.1,sub u q.2))++u.filter λq=>(look s q.1).isNone
theorem jmX{s u:ju}(hu:jB u=true):QV (Ky s u)=kC s u:=by
 unfold kC Ky;unfold QV;rw[List.foldl_append,List.foldl_append,QW (s.map _)];rfl
theorem jdZ{s u:ju}(hs:jB s=true)(hu:jB u=true):(Ky s u).length<=24/\((Ky s u).map Prod.fst).Nodup/\(∀p∈Ky s u,p.2.name≠p.1)/\ ∀p∈Ky s u,p.1.length<=1000000/\Tz p.2:=by
 obtain⟨ls,_,vs⟩:=jI hs;obtain⟨lu,_,vu⟩:=jI hu;have hs2:∀p∈keepB (s.map λq=>(q.1,sub u q.2)),p.2.name≠p.1/\ ∃q∈s,p.1=q.1/\p.2=sub u q.2:=λp hp=>by
  obtain⟨h1,h2⟩:=List.mem_filter.1 hp;obtain⟨q,hq,rfl⟩:=List.mem_map.1 h1;exact⟨by simpa using h2,q,hq,rfl,rfl⟩
 refine⟨?_,?_,λp hp=>?_,λp hp=>?_⟩
 .unfold Ky keepB;have h1:=List.length_filter_le (λp:Xb×T=> !decide (p.2.name=p.1)) (s.map λq=>(q.1,sub u q.2));have h2:=List.length_filter_le (λq:Xb×T=>(look s q.1).isNone) u;rw[List.length_append];rw[List.length_map]at h1;omega
 .unfold Ky;rw[List.map_append];refine List.nodup_append.2 ⟨?_,?_,λa ha b hb=>?_⟩
  .have:((keepB (s.map λq=>(q.1,sub u q.2))).map Prod.fst).Sublist (s.map Prod.fst):=by
    have h:=(List.filter_sublist (p:=λp:Xb×T=> !decide (p.2.name=p.1)) (l:=s.map λq=>(q.1,sub u q.2))).map Prod.fst;rw[List.map_map]at h;exact h
   exact(jcF hs).sublist this
  .exact (jcF hu).sublist (List.filter_sublist.map Prod.fst)
  .obtain ⟨p,hp,rfl⟩:=List.mem_map.1 ha;obtain⟨q,hq,rfl⟩:=List.mem_map.1 hb;obtain⟨_,r,hr,e,_⟩:=hs2 p hp;have h3:=(List.mem_filter.1 hq).2;rw[Option.isNone_iff_eq_none]at h3;intro e2;exact qK.1 h3 r hr (by rw[<-e,e2])
 .rcases List.mem_append.1 hp with hp|hp
  .exact (hs2 p hp).1
  .exact (vu p (List.mem_filter.1 hp).1).2.2
 .rcases List.mem_append.1 hp with hp|hp
  .obtain ⟨_,q,hq,e1,e2⟩:=hs2 p hp;rw[e1,e2];have h1:=(zB hs).2 q hq;exact⟨h1.1,K0.sub_tz hu (Or.inl (J0 hs q hq)) (by have:=JQ hs q hq;omega)⟩
  .exact (zB hu).2 p (List.mem_filter.1 hp).1
theorem jmO{s u:ju}(hs:jB s=true)(hu:jB u=true):SzB (kC s u):=by
 obtain⟨h1,h2,h3,h4⟩:=jdZ hs hu;rw[<-jmX hu];obtain⟨f1,f2⟩:=KD (Ky s u) [] h3;refine⟨by unfold QV;rw[f1];simp;omega,λq hq=>?_⟩;have:=(f2 q).1 hq;simp only[List.not_mem_nil,false_or]at this;exact h4 q this
theorem jco(s u:ju)(hs:jB s=true)(hu:jB u=true):G 101 [sb s,sb u]=zE (if jB (kC s u)then some (kC s u)else none):=by
 obtain⟨g1,g2,g3,g4⟩:=jdZ hs hu;have ls:=(jI hs).1;have lu:=(jI hu).1;obtain⟨so,p1,p2,p3⟩:=jqk Jg Prod.fst bc 3 153 rfl (Ky s u) (by omega) λx _ y _=>jrg x y;have hso:=jic g2 g3 p1 p2;rw[jmX hu]at hso;subst hso;have e1:=jgL (kC s u) (jmO hs hu);have fin:jbu (JY u) (vi (u.length:Nat)) (vi (u.length:Nat)) (JY s) [] ((Ky s u).map bc)=zE (if jB (kC s u)then some (kC s u)else none):=by
  have hC:jkR ((Ky s u).map bc)=some (.top,[.sl 3 ((kC s u).map bc)]):=by rw[jvW];exact p3
  have r1:hR 3 (A.top,[.sl 3 ((kC s u).map bc)]) 0=some ((kC s u).map bc):=rfl;rw[jqD];cases hv:jB (kC s u)<;>rw[hv]at e1
  .rw [if_neg Bool.false_ne_true];have e1:(G 150 [sb (kC s u)]).bind (fin true)=some (vb false):=by rw[e1];rfl
   simp only[jg,hC,r1,e1];rfl
  .rw [if_pos rfl];have e1:(G 150 [sb (kC s u)]).bind (fin true)=some (vb true):=by rw[e1];rfl
   simp only[jg,hC,r1,e1];rfl
 have k1:=upto (P:=λi=>∀R:ju,R.length<=12+i->R++(u.drop i).filter (λq=>(look s q.1).isNone)=Ky s u->jbu (JY u) (vi (u.length:Nat)) (vi (i:Nat)) (JY s) [] (R.map bc)=zE (if jB (kC s u)then some (kC s u)else none)) (n:=u.length) ?_ ?_ 0 (Nat.zero_le _);rotate_left
 .intro R _ hR;rw[List.drop_length,List.filter_nil,List.append_nil]at hR;rw[hR];exact fin
 .intro i hi ih R hRl hR;have hlt:(i:Int)<((u.length:Nat):Int):=by omega
  have h5:ck ((i:Int)+1)=some (vi ((i+1:Nat):Int)):=jZ (by omega) (by omega);have e2:=je4 s hs u[i].1;rw[js hi,List.filter_cons]at hR;rw[jqD];cases hl:look s u[i].1 with
  |some r=>
   rw[hl]at e2 hR;have e2:G 151 [sb s,sv u[i].1]=some (.tup [tm r,vb true],[]):=e2;rw[if_neg (by simp)]at hR;have:=ih R (by omega) hR;simp only[jg,hlt,jb hi,Jx,e2,h5,this]
  |none=>
   rw[hl]at e2 hR;have e2:G 151 [sb s,sv u[i].1]=some (.tup [.agg [sv [],.sl 2 []],vb false],[]):=e2;rw[if_pos (by simp)]at hR;have:=ih (R++[u[i]]) (by rw[List.length_append];simp only[List.length_cons,List.length_nil];omega) (by rw[List.append_assoc];exact hR);have e3:=jfO u[i].2 ((zB hu).2 _ (List.getElem_mem hi)).2;have hf:jO (R.length+1) 56=true:=jno (by omega);have ha:j4 (R.map bc) [[sv u[i].1,sv u[i].2.name,jS u[i].2.args]]=(R++[u[i]]).map bc:=by rw[List.map_append];rfl
   simp only[jg,hlt,jb hi,Jx,e2,e3];generalize hB:zk _ _ _=B;have hB':B=some (.agg (bc u[i])):=by rw[<-hB];kernel_rfl
   rw[hB'];simp only[jg,hf,ha,h5,this]
 have k0:=upto (P:=λi=>∀R:ju,R.length<=i->R++(keepB ((s.drop i).map λq=>(q.1,sub u q.2))++u.filter λq=>(look s q.1).isNone)=Ky s u->jdq (JY s) (vi (s.length:Nat)) (vi (i:Nat)) (JY s) (JY u) [] (R.map bc)=zE (if jB (kC s u)then some (kC s u)else none)) (n:=s.length) ?_ ?_ 0 (Nat.zero_le _) [] (Nat.zero_le _) rfl
 .simp only[Int.natCast_zero,List.map_nil]at k0;rw[jzx];simp only[jg,k0]
 .intro R hRl hR;have:=k1 R (by omega) (by rw[List.drop_zero];rw[List.drop_length]at hR;exact hR);simp only[Int.natCast_zero]at this;rw[jqC];simp only[jg,this]
 .intro i hi ih R hRl hR;have hlt:(i:Int)<((s.length:Nat):Int):=by omega
  have h5:ck ((i:Int)+1)=some (vi ((i+1:Nat):Int)):=jZ (by omega) (by omega);have hm:=(zB hs).2 _ (List.getElem_mem hi);have e2:=jfH u hu s[i].2 (Or.inl (J0 hs _ (List.getElem_mem hi))) hm.2;rw[js hi,List.map_cons,keepB,List.filter_cons]at hR;rw[jqC];by_cases he:(sub u s[i].2).name=s[i].1
  .rw [if_neg (by simp[he])]at hR;have:=ih R (by omega) hR;simp only[jg,hlt,jb hi,Jx,e2,he,h5,this]
  .rw [if_pos (by simp[he])]at hR;have:=ih (R++[(s[i].1,sub u s[i].2)]) (by rw[List.length_append];simp only[List.length_cons,List.length_nil];omega) (by rw[List.append_assoc];exact hR);have hf:jO (R.length+1) 56=true:=jno (by omega);have ha:j4 (R.map bc) [[sv s[i].1,sv (sub u s[i].2).name,jS (sub u s[i].2).args]]=(R++[(s[i].1,sub u s[i].2)]).map bc:=by rw[List.map_append];rfl
   simp only[jg,hlt,jb hi,Jx,e2,he,hf,ha,h5,this]
theorem jhN(s u:ju)(hs:jB s=true)(hu:jB u=true):G 184 [sb s,sb u]=some (sb (kC s u),[]):=by
 have ls:=(jI hs).1;have lu:=(jI hu).1;have r1:∀x:ju,hR 3 (A.top,[JY x]) 0=some (x.map bc):=λx=>rfl;have k1:=upto (P:=λi=>∀R:ju,R.length<=12+i->(∀q∈R,Tz q.2)->jdw (vi (i:Nat)) (JY s) (JY u) [] (R.map bc)=some (sb (((u.drop i).filter λq=>(look s q.1).isNone).foldl (λs p=>Ks s p.1 p.2) R),[])) (n:=u.length) ?_ ?_ 0 (Nat.zero_le _);rotate_left
 .intro R _ _;rw[jq3,List.drop_length];simp only[jg];rfl
 .intro i hi ih R hR hz;have hlt:(i:Int)<((u.length:Nat):Int):=by omega
  have h5:ck ((i:Int)+1)=some (vi ((i+1:Nat):Int)):=jZ (by omega) (by omega);have hm:=(zB hu).2 _ (List.getElem_mem hi);rw[jq3,js hi,List.filter_cons];rcases jf8 s (by omega) u[i].1 with⟨h1,h2⟩|⟨k,hk,h1,h2⟩
  .have e3:=jnq R (by omega) u[i].1 u[i].2 hm.2;have:=ih (Ks R u[i].1 u[i].2) (by have:=jj0 R u[i].1 u[i].2;omega) λq hq=>(jj1 hq).elim (hz q) λe=>by rw[e];exact hm.2
   rw[h1,if_pos (by simp),List.foldl_cons];simp only[jg,hlt,jb hi,ZC,h2,e3,r1,h5,this]
  .have:=ih R (by omega) hz;have hk0:¬((k:Nat):Int)<0:=by omega
   rw[h1,if_neg (by simp)];simp only[jg,hlt,jb hi,h2,hk0,h5,this]
 have k0:=upto (P:=λi=>∀R:ju,R.length<=i->(∀q∈R,Tz q.2)->jhg (vi (i:Nat)) (JY s) (JY u) [] (R.map bc)=some (sb ((u.filter λq=>(look s q.1).isNone).foldl (λs p=>Ks s p.1 p.2) (((s.drop i).map λq=>(q.1,sub u q.2)).foldl (λs p=>Ks s p.1 p.2) R)),[])) (n:=s.length) ?_ ?_ 0 (Nat.zero_le _) [] (Nat.zero_le _) (λq h=>by cases h)
 .simp only[Int.natCast_zero,List.map_nil,List.drop_zero]at k0;rw[jAf];simp only[jg,k0];rw[<-List.foldl_append];rfl
 .intro R hR hz;have:=k1 R (by omega) hz;simp only[Int.natCast_zero,List.drop_zero]at this;rw[jq2,List.drop_length];simp only[jg,this];rfl
 .intro i hi ih R hR hz;have hlt:(i:Int)<((s.length:Nat):Int):=by omega
  have h5:ck ((i:Int)+1)=some (vi ((i+1:Nat):Int)):=jZ (by omega) (by omega);have hm:=(zB hs).2 _ (List.getElem_mem hi);have ht:Tz (sub u s[i].2):=K0.sub_tz hu (Or.inl (J0 hs _ (List.getElem_mem hi))) (by have:=JQ hs _ (List.getElem_mem hi);omega);have e2:=QN u (zB hu).sz s[i].2 hm.2;have e3:=jnq R (by omega) s[i].1 (sub u s[i].2) ht;have:=ih (Ks R s[i].1 (sub u s[i].2)) (by have:=jj0 R s[i].1 (sub u s[i].2);omega) λq hq=>(jj1 hq).elim (hz q) λe=>by rw[e];exact ht
  rw[jq2,js hi,List.map_cons,List.foldl_cons];simp only[jg,hlt,jb hi,ZC,e2,e3,r1,h5,this]
theorem jiN(s u:ju)(hs:jB s=true)(hu:SzB u):G 139 [sb s,sb u]=zE (if jB u && jB (kC s u)then some (kC s u)else none):=by
 have e1:=Qd s (zB hs);have e2:=Qd u hu;rw[hs]at e1;rw[jzR];cases hv:jB u<;>rw[hv]at e2
 .rw [Bool.false_and,if_neg Bool.false_ne_true];simp only[jg,e1,e2];rfl
 .have e3:=jhN s u hs hv;have e4:=Qd (kC s u) (jmO hs hv);rw[Bool.true_and];cases hc:jB (kC s u)<;>rw[hc]at e4
  .rw [if_neg Bool.false_ne_true];simp only[jg,e1,e2,e3,e4];rfl
  .rw [if_pos rfl];simp only[jg,e1,e2,e3,e4];rfl
inductive Hgt(s:ju):Nat->yH->Prop
 |nil (r:Nat):Hgt s r []
 |blk (r τ δ:Nat) (b es:yH):9*τ+(8-δ)<r->τ<=s.length+1->δ<=8->b.length<=4->(τ=s.length+1-> ∀p∈b,sub s p.1=p.1/\sub s p.2=p.2/\Ko p.1<=δ/\Ko p.2<=δ)->Hgt s (9*τ+(8-δ)) es->Hgt s r (b++es)
theorem Hgt.len{s:ju}{r:Nat}{es:yH}(h:Hgt s r es):es.length<=4*r:=by
 induction h with
 |nil r=>exact Nat.zero_le _
 |blk r τ δ b es h1 _ _ h4 _ _ ih=>rw[List.length_append];omega
theorem Hgt.mono{s:ju}{r r':Nat}{es:yH}(h:Hgt s r es)(hr:r<=r'):Hgt s r' es:=by
 induction h with
 |nil=>exact Hgt.nil _
 |blk r τ δ b es h1 h2 h3 h4 h5 h6 _=>exact Hgt.blk r' τ δ b es (by omega) h2 h3 h4 h5 h6
theorem Hgt.grow{s s':ju}(hs:s.length<s'.length){r:Nat}{es:yH}(h:Hgt s r es):Hgt s' r es:=by
 induction h with
 |nil r=>exact Hgt.nil _
 |blk r τ δ b es h1 h2 h3 h4 h5 _ ih=>exact Hgt.blk r τ δ b es h1 (by omega) h3 h4 (λh=>by omega) ih
theorem Hgt.pop{s:ju}{r:Nat}{es:yH}(h:Hgt s r es):∀{p:T×T}{rest:yH},es=p::rest-> ∃τ δ,9*τ+(8-δ)<r/\τ<=s.length+1/\δ<=8/\(τ=s.length+1->sub s p.1=p.1/\sub s p.2=p.2/\Ko p.1<=δ/\Ko p.2<=δ)/\Hgt s (9*τ+(8-δ)+1) rest:=by
 induction h with
 |nil r=>intro p rest h;cases h
 |blk r τ δ b es h1 h2 h3 h4 h5 h6 ih=>
  intro p rest he;cases b with
  |nil=>
   obtain⟨τ',δ',g1,g2⟩:=ih he;exact⟨τ',δ',by omega,g2⟩
  |cons q b=>
   rw[List.cons_append,List.cons.injEq]at he;obtain⟨rfl,rfl⟩:=he;rw[List.length_cons]at h4;exact⟨τ,δ,h1,h2,h3,λh=>h5 h q (by simp),Hgt.blk _ τ δ b es (by omega) h2 h3 (by omega) (λh x hx=>h5 h x (by simp[hx])) h6⟩
theorem jaT{t:T}(h:K0 t):t.args.length<=4:=by
 rcases h with h|h
 .cases hv:jr t.name with
  |true=>rw[jbp h hv];simp
  |false=>
   rw[qj,hv,if_neg Bool.false_ne_true,Bool.and_eq_true,Bool.and_eq_true,decide_eq_true_eq]at h;exact h.2.1
 .omega
theorem ye{s:ju}{l r:T}{rest:yH}(h:Jt s ((l,r)::rest))(hg:Hgt s 126 ((l,r)::rest)){s':ju}{es:yH}(hst:yl s l r rest=some (s',es)):Hgt s' 126 es:=by
 obtain⟨τ,δ,g1,g2,g3,g4,g5⟩:=hg.pop rfl;have hrest:Hgt s 126 rest:=g5.mono (by omega);have hl:=(jI h.1).1;obtain⟨_,hor⟩:=zx h hst;by_cases hlen:s'.length=s.length+1
 .have hst':=hst;unfold yl at hst;split at hst
  .cases hst
  split at hst
  .cases hst;omega
  split at hst
  .split at hst
   .cases hst
   .cases hst;exact hrest.grow (by omega)
  .split at hst
   .cases hst;omega
   .cases hst
 .have hs:s'=s:=hor.elim (λh=>h.1) λh=>(hlen h).elim;subst hs;obtain⟨hv,hi,he⟩:=h;obtain⟨el,er⟩:=he (l,r) (by simp);unfold yl at hst;split at hst
  .cases hst
  rename_i hsm;split at hst
  .cases hst;exact hrest
  split at hst
  .rename_i hvar;split at hst
   .cases hst
   .rename_i hno;simp only[Option.some.injEq,Prod.mk.injEq]at hst;rw[<-hst.2];exact hrest
  rename_i hnv;split at hst;rotate_left
  .cases hst
  simp only[Option.some.injEq,Prod.mk.injEq,true_and]at hst;subst hst;have sm:∀t,¬jH t=false->Ko t<=8:=λt ht=>by
   have:jH t=true:=by cases h:jH t with|true=>rfl|false=>exact(ht h).elim
   simp only[jH,Bool.and_eq_true,decide_eq_true_eq]at this;exact this.2
  have d1:=sm (sub s' l) λh=>hsm (Or.inl h);have d2:=sm (sub s' r) λh=>hsm (Or.inr h);have v1:jr (sub s' l).name=false:=by
   cases h:jr (sub s' l).name with
   |false=>rfl
   |true=>exact absurd (Or.inl h) hnv
  have v2:jr (sub s' r).name=false:=by
   cases h:jr (sub s' r).name with
   |false=>rfl
   |true=>exact absurd (Or.inr h) hnv
  have xl:K0 (sub s' l):=K0.sub hv el.1;have xr:K0 (sub s' r):=K0.sub hv er.1;have arg:∀w:T,K0 (sub s' w)->jr (sub s' w).name=false->IdS s'-> ∀u∈(sub s' w).args,sub s' u=u/\Ko u+1<=Ko (sub s' w):=λw xw vw hi u hu=>by
   refine⟨jl7 u (xw.elim (λh=>qi h u hu) λh=>h.2.2 u hu) λx hx=>jfd hi w (by rw[vsf vw,yx];exact⟨u,hu,hx⟩),?_⟩
   have:=jp3 hu;rw[Kc (sub s' w)];omega
  have p1:=Kc (sub s' l);have p2:=Kc (sub s' r);refine Hgt.blk 126 (s'.length+1) (max (Ko (sub s' l)) (Ko (sub s' r))-1) _ rest (by omega) (Nat.le_refl _) (by omega) ?_ (λ_ p hp=>?_) (g5.mono ?_)
  .rw [List.length_zip];have:=jaT xl;omega
  .have hm:=List.of_mem_zip (a:=p.1) (b:=p.2) hp;have q1:=arg l xl v1 hi p.1 hm.1;have q2:=arg r xr v2 hi p.2 hm.2;exact⟨q1.1,q2.1,by omega,by omega⟩
  .by_cases hτ:τ=s'.length+1
   .obtain ⟨w1,w2,w3,w4⟩:=g4 hτ;have w3:Ko l<=δ:=w3;have w4:Ko r<=δ:=w4;have w1:Ko (sub s' l)=Ko l:=congrArg Ko w1;have w2:Ko (sub s' r)=Ko r:=congrArg Ko w2;omega
   .omega
theorem jx1(a b:T):Hgt [] 126 [(a,b)]:=Hgt.blk 126 0 8 [(a,b)] [] (by omega) (by omega) (by omega) (by simp) (λh=>by simp at h) (Hgt.nil _)
theorem jcZ{n:Nat}(h:n<=100000):jO n 80=true:=by
 unfold jO;exact decide_eq_true ⟨by omega,by omega⟩
theorem jdF{x y:T}(h:jr x.name=true\/jr y.name=true):jr (jv x y).1=true/\(((jv x y).1=y.name/\(jv x y).2=x)\/((jv x y).1=x.name/\(jv x y).2=y)):=by
 unfold jv;split
 .rename_i hc;refine⟨?_,Or.inl ⟨rfl,rfl⟩⟩;rcases hc with hc|hc
  .rcases h with h|h
   .rw [hc]at h;cases h
   .exact h
  .exact hc.1
 .rename_i hc;refine⟨?_,Or.inr ⟨rfl,rfl⟩⟩;rcases Bool.eq_false_or_eq_true (jr x.name)with h2|h2
  .exact h2
  .exact absurd (Or.inl h2) hc
theorem jok{p:Xb×T}(hn:jr p.1=true):(!decide ((0:Int)<(cnt p.1 p.2:Nat)) && jB [p])=(!decide (p.1∈ke p.2) && jB [p]):=by
 cases hv:jB [p]with
 |false=>rw[Bool.and_false,Bool.and_false]
 |true=>
  have hk:qb p.2=true:=J0 hv p (by simp);have:=jsu hn p.2 hk;rw[Bool.and_true,Bool.and_true];congr 1;exact decide_eq_decide.2 (by rw[this];omega)
theorem jrB{p:Xb×T}(hn:jr p.1=true)(hz:Tz p.2):SzB [p]:=⟨by simp,λq hq=>by
 rw[List.mem_singleton.1 hq];exact⟨by have:=jfc hn;omega,hz⟩⟩
theorem jar(x y:T)(hx:K0 x)(hy:K0 y)(nx:nodes x<=3000)(ny:nodes y<=3000)(h:jr x.name=true\/jr y.name=true):G 100 [.agg [sv x.name,jS x.args,sv y.name,jS y.args]]=some (.tup [sb [jv x y],vb (!decide ((jv x y).1∈ke (jv x y).2) && jB [jv x y])],[]):=by
 have e1:=yA x (hx.imp id λh=>h.1);have e2:=yA y (hy.imp id λh=>h.1);obtain⟨hv,hor⟩:=jdF h;have hz:Tz (jv x y).2:=by
  rcases hor with h|h
  .rw [h.2];exact hx.tz (by omega)
  .rw [h.2];exact hy.tz (by omega)
 have hn:nodes (jv x y).2<=3000:=by
  rcases hor with h|h
  .rw [h.2];exact nx
  .rw [h.2];exact ny
 have e3:=jhv (jv x y).1 (jv x y).2 hz.wf (by omega);have e4:G 149 [sv (jv x y).1,tm (jv x y).2]=some (vb (decide ((0:Int)<(cnt (jv x y).1 (jv x y).2:Nat))),[]):=by
  rw[jzY];simp only[jg,e3]
 have e5:=jgL [jv x y] (jrB hv hz);have e5:G 150 [.agg [.sl 3 [[sv (jv x y).1,sv (jv x y).2.name,jS (jv x y).2.args]]]]=some (vb (jB [jv x y]),[]):=e5;rw[<-jok hv,jzw];generalize hb:jB [jv x y]=vv at *;generalize ho:decide ((0:Int)<(cnt (jv x y).1 (jv x y).2:Nat))=oo at *;have hsb:sb [jv x y] = .agg [.sl 3 [[sv (jv x y).1,sv (jv x y).2.name,jS (jv x y).2.args]]]:=rfl;rw[hsb];have e5:(G 150 [.agg [.sl 3 [[sv (jv x y).1,sv (jv x y).2.name,jS (jv x y).2.args]]]]).bind (fin true)=some (vb vv):=by rw[e5];rfl
 cases hx1:jr x.name<;>rw[hx1]at e1
 .have hbd:jv x y=(y.name,x):=if_pos (Or.inl hx1);rw[hbd]at e4 e5⊢;have e4:G 149 [sv y.name,tm x]=some (vb oo,[]):=e4;have e5:(G 150 [.agg [.sl 3 [[sv y.name,sv x.name,jS x.args]]]]).bind (fin true)=some (vb vv):=e5;cases oo
  .simp only[jg,e1,e4,e5,Bool.true_and]
  .simp only[jg,e1,e4,Bool.false_and]
 .cases hy1:jr y.name<;>rw[hy1]at e2
  .have hbd:jv x y=(x.name,y):=if_neg (by rw[hx1,hy1];simp)
   rw[hbd]at e4 e5⊢;have e4:G 149 [sv x.name,tm y]=some (vb oo,[]):=e4;have e5:(G 150 [.agg [.sl 3 [[sv x.name,sv y.name,jS y.args]]]]).bind (fin true)=some (vb vv):=e5;cases oo
   .simp only[jg,e1,e2,e4,e5,Bool.true_and]
   .simp only[jg,e1,e2,e4,Bool.false_and]
  .have e6:=jbT false y.name x.name;cases hc:zz x.name y.name<;>rw[hc]at e6
   .have hbd:jv x y=(x.name,y):=if_neg (by rw[hx1,hy1,hc];simp)
    rw[hbd]at e4 e5⊢;have e4:G 149 [sv x.name,tm y]=some (vb oo,[]):=e4;have e5:(G 150 [.agg [.sl 3 [[sv x.name,sv y.name,jS y.args]]]]).bind (fin true)=some (vb vv):=e5;cases oo
    .simp only[jg,e1,e2,e6,e4,e5,Bool.true_and]
    .simp only[jg,e1,e2,e6,e4,Bool.false_and]
   .have hbd:jv x y=(y.name,x):=if_pos (Or.inr ⟨hy1,hc⟩);rw[hbd]at e4 e5⊢;have e4:G 149 [sv y.name,tm x]=some (vb oo,[]):=e4;have e5:(G 150 [.agg [.sl 3 [[sv y.name,sv x.name,jS x.args]]]]).bind (fin true)=some (vb vv):=e5;cases oo
    .simp only[jg,e1,e2,e6,e4,e5,Bool.true_and]
    .simp only[jg,e1,e2,e6,e4,Bool.false_and]
theorem jf9(s:ju)(hs:jB s=true)(n:Xb)(t:T)(hn:jr n=true)(ht:Tz t)(hk:n∈ke t\/t.name≠n):∃z:ju,G 92 [sb s,sv n,tm t]=some (if !decide (n∈ke t) && (jB [(n,t)] && jB (kC s [(n,t)]))then .tup [sb (kC s [(n,t)]),vb true]else .tup [sb z,vb false],[]):=by
 obtain⟨r,e1,hr,hl⟩:=jn9 t ht.wf (by have:=Yk t;have:=ht;unfold Tz at this;omega)
 have e2:=jnc r n hl;have hc:r.contains n=decide (n∈ke t):=by
  cases h:r.contains n with
  |true=>rw[List.contains_iff_mem,hr]at h;exact(decide_eq_true h).symm
  |false=>
   refine(decide_eq_false λh2=>?_).symm;rw[<-hr,<-List.contains_iff_mem,h]at h2;cases h2
 rw[hc]at e2;rw[g92];by_cases hm:n∈ke t
 .refine ⟨s,?_⟩;rw[decide_eq_true hm]at e2;rw[decide_eq_true hm,Bool.not_true,Bool.false_and,if_neg Bool.false_ne_true];simp only[jg,e1,e2]
 .refine ⟨[],?_⟩;have hne:¬t.name=n:=hk.resolve_left hm;rw[decide_eq_false hm]at e2;rw[decide_eq_false hm,Bool.not_false,Bool.true_and];have e3:jkQ (sv n) (sv t.name) (jS t.args) []=some (.top,[.sl 3 [[sv n,sv t.name,jS t.args]]]):=by
   have k1:pB (zS []) (kY [] 0) (some (vi 0))=some 0:=rfl;have k2:pB (zS []) (kY [] 0) none=some 0:=rfl;have k3:pB 0 0 (some (vi 0))=some 0:=rfl;have k4:yi [] 0 (j6 0 0)=[]:=rfl;have k5:j4 (j4 [] [[sv n,sv t.name,jS t.args]]) []=[[sv n,sv t.name,jS t.args]]:=rfl;have f0:jO 0 56=true:=jno (by omega);have f1:jO 1 56=true:=jno (by omega);have f2:(j4 [] [[sv n,sv t.name,jS t.args]]).length=1:=rfl;have eo:=jhZ t ht;have h00:¬((0:Int)<((0:Nat):Int)):=by omega
   rw[jvT];simp only[jg,hne];rw[jqR];simp only[jg,h00,k1,k2,k3,k4,f0,f1,eo];generalize hB:zk _ _ _=B;have hB':B=some (.agg [sv n,sv t.name,jS t.args]):=by rw[<-hB];kernel_rfl
   rw[hB'];simp only[jg,f1,k5,f2,Nat.add_zero]
  have e4:=jiN s [(n,t)] hs (jrB hn ht);have r1:hR 3 (A.top,[.sl 3 [[sv n,sv t.name,jS t.args]]]) 0=some [[sv n,sv t.name,jS t.args]]:=rfl;have e4:G 139 [sb s,.agg [.sl 3 [[sv n,sv t.name,jS t.args]]]]=_:=e4;cases hb:jB [(n,t)] && jB (kC s [(n,t)])
  .rw [hb,if_neg Bool.false_ne_true]at e4;have e4:G 139 [sb s,.agg [.sl 3 [[sv n,sv t.name,jS t.args]]]]=some (.tup [.agg [.sl 3 []],vb false],[]):=e4;rw[if_neg Bool.false_ne_true];simp only[jg,e1,e2,e3,r1,e4];rfl
  .rw [hb,if_pos rfl]at e4;have e4:G 139 [sb s,.agg [.sl 3 [[sv n,sv t.name,jS t.args]]]]=some (.tup [sb (kC s [(n,t)]),vb true],[]):=e4;rw[if_pos rfl];simp only[jg,e1,e2,e3,r1,e4]
abbrev ec(p:T×T):Xd:=[sv p.1.name,jS p.1.args,sv p.2.name,jS p.2.args]
theorem Yx{W:yH}{i:Nat}{p:T×T}(h:W[i]? = some p):y5 (W.map ec) i 0 2=some (tm p.1)/\y5 (W.map ec) i 2 2=some (tm p.2):=by
 unfold y5;rw[List.getElem?_map,h];exact⟨rfl,rfl⟩
theorem y8{W rest:yH}{p:T×T}{off:Nat}(h:W.drop off=p::rest):W[off]? = some p/\W.drop (off+1)=rest/\W.length=off+rest.length+1:=by
 have h1:=congrArg (λl=>l[0]?) h;simp only[List.getElem?_drop,Nat.add_zero,List.getElem?_cons_zero]at h1;have h2:=congrArg (List.drop 1) h;rw[List.drop_drop]at h2;have h3:=congrArg List.length h;rw[List.length_drop,List.length_cons]at h3;exact⟨h1,h2,by omega⟩
theorem jbq{us vs:Xg}{i:Nat}(h1:i<us.length)(h2:i<vs.length):j4 (((us.zip vs).take i).map ec) [[sv us[i].name,jS us[i].args,sv vs[i].name,jS vs[i].args]]=((us.zip vs).take (i+1)).map ec:=by
 have hl:i<(us.zip vs).length:=by rw[List.length_zip];omega
 rw[List.take_add_one,List.getElem?_eq_getElem hl,List.map_append,List.getElem_zip];rfl
theorem YK{W:yH}(off:Nat):yi (W.map ec) off (W.length-off)=(W.drop off).map ec:=by
 rw[jdg,<-List.map_drop,List.take_of_length_le (by rw[List.length_map,List.length_drop];omega)]
theorem Qb{s:ju}{l r:T}{rest:yH}(h1:jH (sub s l)=true)(h2:jH (sub s r)=true)(h3:dq (sub s l) (sub s r)=true):yl s l r rest=some (s,rest):=by
 unfold yl;rw[if_neg (by rw[h1,h2];simp),if_pos h3]
theorem Y9{s:ju}{l r:T}{rest:yH}(h1:jH (sub s l)=true)(h2:jH (sub s r)=true)(h3:dq (sub s l) (sub s r)=false)(h4:jr (sub s l).name=true\/jr (sub s r).name=true):yl s l r rest=if(!decide ((jv (sub s l) (sub s r)).1∈ke (jv (sub s l) (sub s r)).2) && jB [jv (sub s l) (sub s r)]) && jB (kC s [jv (sub s l) (sub s r)])then some (kC s [jv (sub s l) (sub s r)],rest)else none:=by
 unfold yl;rw[if_neg (by rw[h1,h2];simp),if_neg (by rw[h3];simp),if_pos h4];generalize jv (sub s l) (sub s r)=p;by_cases c1:p.1∈ke p.2
 .rw [if_pos (Or.inl c1),decide_eq_true c1];rfl
 .rw [decide_eq_false c1];cases c2:jB [p]
  .rw [if_pos (Or.inr (Or.inl rfl))];rfl
  .cases c3:jB (kC s [p])
   .rw [if_pos (Or.inr (Or.inr rfl))];rfl
   .rw [if_neg (by simp[c1])];rfl
theorem Qa{s:ju}{l r:T}{rest:yH}(h1:jH (sub s l)=true)(h2:jH (sub s r)=true)(h3:dq (sub s l) (sub s r)=false)(h4:jr (sub s l).name=false)(h5:jr (sub s r).name=false):yl s l r rest=if(sub s l).name=(sub s r).name/\(sub s l).args.length=(sub s r).args.length then some (s,(sub s l).args.zip (sub s r).args++rest)else none:=by
 unfold yl;rw[if_neg (by rw[h1,h2];simp),if_neg (by rw[h3];simp),if_neg (by rw[h4,h5];simp)]
theorem jV{k:Nat}{s:ju}{l r:T}{rest:yH}{res:Option ju}(hst:yl s l r rest=none)(h:kH (k+1) s ((l,r)::rest)=some res):res=none:=by
 rw[kH,hst]at h;exact(Option.some.inj h).symm
theorem zl{k:Nat}{s:ju}{l r:T}{rest:yH}{res:Option ju}{q:ju×yH}(hst:yl s l r rest=some q)(h:kH (k+1) s ((l,r)::rest)=some res):kH k q.1 q.2=some res:=by
 rw[kH,hst]at h;exact h
theorem ZP{s:ju}{l r:T}{rest:yH}(h:Jt s ((l,r)::rest)):K0 l/\K0 r/\nodes l<=31/\nodes r<=31:=by
 obtain⟨h1,h2⟩:=h.2.2 (l,r) (by simp);exact⟨h1.1,h2.1,h1.2,h2.2⟩
theorem jwj(s:ju)(W:yH)(off:Nat)(hW:W.length<=1000)(x y:T)(hl:x.args.length=y.args.length)(h4:x.args.length<=4) :
  jmx (nA off) (nA (W.length-off)) (jS x.args) (vi (x.args.length:Nat)) (vi 0) (JY s) (sv y.name) (jS y.args) (W.map ec) [] []=jfD (JY s) ((x.args.zip y.args++W.drop off).map ec) []:=by
 have h1:kE (nA off)=off:=rfl;have h2:kE (nA (W.length-off))=W.length-off:=rfl;have hend:jO (((x.args.zip y.args).map ec).length+((W.drop off).map ec).length) 80=true:=by
  rw[List.length_map,List.length_map,List.length_zip,List.length_drop];exact jcZ (by omega)
 have hzl:((x.args.zip y.args).map ec).length=x.args.length:=by rw[List.length_map,List.length_zip];omega
 have happ:j4 ((x.args.zip y.args).map ec) ((W.drop off).map ec)=(x.args.zip y.args++W.drop off).map ec:=by rw[List.map_append];rfl
 have step:∀i,(hi:i<x.args.length)->(hi2:i<y.args.length)->j4 (((x.args.zip y.args).take i).map ec) [[sv x.args[i].name,jS x.args[i].args,sv y.args[i].name,jS y.args[i].args]]=((x.args.zip y.args).take (i+1)).map ec:=λi hi hi2=>jbq hi hi2;have key:=upto (P:=λi=>jpB (nA off) (nA (W.length-off)) (jS x.args) (vi (x.args.length:Nat)) (vi (i:Nat)) (JY s) (sv y.name) (jS y.args) (W.map ec) (((x.args.zip y.args).take i).map ec) []=jfD (JY s) ((x.args.zip y.args++W.drop off).map ec) []) (n:=x.args.length) ?_ ?_
 .have hend2:(x.args.zip y.args).take x.args.length=x.args.zip y.args:=List.take_of_length_le (by rw[List.length_zip];omega)
  rw[jyb];by_cases h0:0<x.args.length
  .have hi:=h0;have hi2:0<y.args.length:=by omega
   have hlt:(0:Int)<((x.args.length:Nat):Int):=by omega
   have ix:=jb (k:=2) (f:=jm) hi;have ix2:=jb (k:=2) (f:=jm) hi2;have ta:=step 0 hi hi2;simp only[List.take_zero,List.map_nil,Int.natCast_zero,Nat.zero_add]at ta ix ix2;have hf:jO 1 80=true:=jcZ (by omega);have hck:ck (0+1)=some (vi ((1:Nat):Int)):=jZ (n:=0+1) (by omega) (by omega);have key:=key 1 (by omega);rw[<-key];simp only[jg,hlt,ix,ix2,ji,hf,ta,hck,h1,h2]
  .have hlt:¬(0:Int)<((x.args.length:Nat):Int):=by omega
   have he:x.args=[]:=List.eq_nil_of_length_eq_zero (by omega);have hz:x.args.zip y.args=[]:=by rw[he];rfl
   rw[hz]at hend happ⊢;have hend:jO ((W.drop off).map ec).length 80=true:=by simpa using hend
   have happ:j4 [] ((W.drop off).map ec)=(W.drop off).map ec:=rfl;simp only[jg,hlt,h1,h2,YK,List.nil_append];rw[List.length_map]at hend;simp only[jg,hend,happ]
 .have hend2:(x.args.zip y.args).take x.args.length=x.args.zip y.args:=List.take_of_length_le (by rw[List.length_zip];omega)
  rw[hend2,ju7];have hlt:¬((x.args.length:Nat):Int)<((x.args.length:Nat):Int):=by omega
  rw[hzl,List.length_map]at hend;simp only[jg,hlt,h1,h2,YK,happ];rw[List.length_zip,Nat.min_eq_left (by omega)];simp only[jg,hend]
 .intro i hi ih;have hi2:i<y.args.length:=by omega
  have hlt:((i:Nat):Int)<((x.args.length:Nat):Int):=by omega
  have ta:=step i hi hi2;have li:(((x.args.zip y.args).take i).map ec).length=i:=take_len (by rw[List.length_zip];omega);have hf:jO (i+1) 80=true:=jcZ (by omega);have hck:ck ((i:Int)+1)=some (vi ((i+1:Nat):Int)):=jZ (by omega) (by omega);generalize ((x.args.zip y.args).take i).map ec=R at *;rw[ju7,<-ih];simp only[jg,hlt,jb hi,jb hi2,ji,li,hf,ta,hck,h1,h2]
theorem jwi(W:yH)(off:Nat)(hW:W.length<=1000)(x y:T)(hl:x.args.length=y.args.length)(h4:x.args.length<=4) :
  jmw (nA off) (nA (W.length-off)) (jS x.args) (vi (x.args.length:Nat)) (vi 0) (sv y.name) (jS y.args) (W.map ec) [] [] []=jdB ((x.args.zip y.args++W.drop off).map ec) [] []:=by
 have h1:kE (nA off)=off:=rfl;have h2:kE (nA (W.length-off))=W.length-off:=rfl;have hend:jO (((x.args.zip y.args).map ec).length+((W.drop off).map ec).length) 80=true:=by
  rw[List.length_map,List.length_map,List.length_zip,List.length_drop];exact jcZ (by omega)
 have hzl:((x.args.zip y.args).map ec).length=x.args.length:=by rw[List.length_map,List.length_zip];omega
 have happ:j4 ((x.args.zip y.args).map ec) ((W.drop off).map ec)=(x.args.zip y.args++W.drop off).map ec:=by rw[List.map_append];rfl
 have step:∀i,(hi:i<x.args.length)->(hi2:i<y.args.length)->j4 (((x.args.zip y.args).take i).map ec) [[sv x.args[i].name,jS x.args[i].args,sv y.args[i].name,jS y.args[i].args]]=((x.args.zip y.args).take (i+1)).map ec:=λi hi hi2=>jbq hi hi2;have key:=upto (P:=λi=>jpA (nA off) (nA (W.length-off)) (jS x.args) (vi (x.args.length:Nat)) (vi (i:Nat)) (sv y.name) (jS y.args) (W.map ec) (((x.args.zip y.args).take i).map ec) [] []=jdB ((x.args.zip y.args++W.drop off).map ec) [] []) (n:=x.args.length) ?_ ?_
 .have hend2:(x.args.zip y.args).take x.args.length=x.args.zip y.args:=List.take_of_length_le (by rw[List.length_zip];omega)
  rw[jya];by_cases h0:0<x.args.length
  .have hi:=h0;have hi2:0<y.args.length:=by omega
   have hlt:(0:Int)<((x.args.length:Nat):Int):=by omega
   have ix:=jb (k:=2) (f:=jm) hi;have ix2:=jb (k:=2) (f:=jm) hi2;have ta:=step 0 hi hi2;simp only[List.take_zero,List.map_nil,Int.natCast_zero,Nat.zero_add]at ta ix ix2;have hf:jO 1 80=true:=jcZ (by omega);have hck:ck (0+1)=some (vi ((1:Nat):Int)):=jZ (n:=0+1) (by omega) (by omega);have key:=key 1 (by omega);rw[<-key];simp only[jg,hlt,ix,ix2,ji,hf,ta,hck,h1,h2]
  .have hlt:¬(0:Int)<((x.args.length:Nat):Int):=by omega
   have he:x.args=[]:=List.eq_nil_of_length_eq_zero (by omega);have hz:x.args.zip y.args=[]:=by rw[he];rfl
   rw[hz]at hend happ⊢;have hend:jO ((W.drop off).map ec).length 80=true:=by simpa using hend
   have happ:j4 [] ((W.drop off).map ec)=(W.drop off).map ec:=rfl;simp only[jg,hlt,h1,h2,YK,List.nil_append];rw[List.length_map]at hend;simp only[jg,hend,happ]
 .have hend2:(x.args.zip y.args).take x.args.length=x.args.zip y.args:=List.take_of_length_le (by rw[List.length_zip];omega)
  rw[hend2,ju6];have hlt:¬((x.args.length:Nat):Int)<((x.args.length:Nat):Int):=by omega
  rw[hzl,List.length_map]at hend;simp only[jg,hlt,h1,h2,YK,happ];rw[List.length_zip,Nat.min_eq_left (by omega)];simp only[jg,hend]
 .intro i hi ih;have hi2:i<y.args.length:=by omega
  have hlt:((i:Nat):Int)<((x.args.length:Nat):Int):=by omega
  have ta:=step i hi hi2;have li:(((x.args.zip y.args).take i).map ec).length=i:=take_len (by rw[List.length_zip];omega);have hf:jO (i+1) 80=true:=jcZ (by omega);have hck:ck ((i:Int)+1)=some (vi ((i+1:Nat):Int)):=jZ (by omega) (by omega);generalize ((x.args.zip y.args).take i).map ec=R at *;rw[ju6,<-ih];simp only[jg,hlt,jb hi,jb hi2,ji,li,hf,ta,hck,h1,h2]
def US(s:ju)(es:yH)(o:Xe):Prop:=
 (∀(W:yH)(off:Nat),W.drop off=es->off<=W.length->W.length<=1000->jai (nA off) (nA (W.length-off)) (JY s) (W.map ec) []=o)/\jfD (JY s) (es.map ec) []=o/\
 (s=[]->(∀(W:yH)(off:Nat),W.drop off=es->off<=W.length->W.length<=1000->jit (nA off) (nA (W.length-off)) (W.map ec) [] []=o)/\jdB (es.map ec) [] []=o)
theorem un2(k:Nat)(ih:∀(s:ju)(es:yH)(res:Option ju),Jt s es->Hgt s 126 es->kH k s es=some res->US s es (zE res))(s:ju)(l r:T)(rest:yH)(hi:Jt s ((l,r)::rest))(hg:Hgt s 126 ((l,r)::rest))(res:Option ju)(hu:kH (k+1) s ((l,r)::rest)=some res)(W:yH)(off:Nat)(hW:W.drop off=(l,r)::rest)(hlen:W.length<=1000):jai (nA off) (nA (W.length-off)) (JY s) (W.map ec) []=zE res:=by
 obtain⟨d1,d2,d3⟩:=y8 hW;obtain⟨r1,r2⟩:=Yx d1;obtain⟨al,ar,nl,nr⟩:=ZP hi;have hv:=hi.1;have e1:=Jd s hv l al (by omega);have e2:=Jd s hv r ar (by omega);have w1:kE (nA off)=off:=rfl;have w2:kE (nA (W.length-off))=W.length-off:=rfl;have g1:jq .gtr false (nA (W.length-off)) (vi 0)=some (vb true):=by
  show some (vb (decide ((0:Int)<((W.length-off:Nat):Int))))=_;rw[decide_eq_true (by omega)]
 have g2:ZB (W.length-off) (vi 0)=some 0:=zR (i:=0) (by omega);have g3:pB (W.length-off) (kY (W.map ec) off) none=some (W.length-off):=by
  rw[show kY (W.map ec) off=W.length-off by rw[yk,List.length_map]];exact zd (Nat.le_refl _)
 have g4:pB 0 (W.length-off) (some (vi 1))=some 1:=yO (n:=1) (by omega);have hn:j6 (W.length-off) 1=W.length-(off+1):=by unfold j6;omega
 rw[jrd];cases sl:jH (sub s l)<;>rw[sl]at e1
 .have e1:G 82 [sb s,tm l]=some (.tup [.agg [sv [],.sl 2 []],vb false],[]):=e1;have hr:res=none:=jV (by unfold yl;rw[if_pos (Or.inl sl)]) hu;subst hr;obtain⟨q,e2⟩:∃q:T×Bool,G 82 [sb s,tm r]=some (.tup [tm q.1,vb q.2],[]):=by
   cases h:jH (sub s r)<;>rw[h]at e2
   .exact ⟨(.mk [] [],false),e2⟩
   .exact ⟨(sub s r,true),e2⟩
  simp only[jg,w1,w2,g1,g2,g3,g4,Nat.add_zero,r1,r2,e1,e2];rfl
 have e1:G 82 [sb s,tm l]=some (.tup [tm (sub s l),vb true],[]):=e1;cases sr:jH (sub s r)<;>rw[sr]at e2
 .have e2:G 82 [sb s,tm r]=some (.tup [.agg [sv [],.sl 2 []],vb false],[]):=e2;have hr:res=none:=jV (by unfold yl;rw[if_pos (Or.inr sr)]) hu;subst hr;simp only[jg,w1,w2,g1,g2,g3,g4,Nat.add_zero,r1,r2,e1,e2];rfl
 have e2:G 82 [sb s,tm r]=some (.tup [tm (sub s r),vb true],[]):=e2;have xl:K0 (sub s l):=K0.sub hv al;have xr:K0 (sub s r):=K0.sub hv ar;have ml:=kT sl;have mr:=kT sr;have tl:=xl.tz (by omega);have tr:=xr.tz (by omega);have e3:=KP (sub s l) tl.wf (sub s r) tr.wf;have ll:=(jI hv).1;cases hd:dq (sub s l) (sub s r)<;>rw[hd]at e3
 rotate_left
 .have hst:=Qb (rest:=rest) sl sr hd;have hnext:=ih _ _ res (zx hi hst).1 (ye hi hg hst) (zl hst hu);have hnext:=hnext.1 W (off+1) d2 (by omega) hlen;simp only[jg,w1,w2,g1,g2,g3,g4,Nat.add_zero,r1,r2,e1,e2,e3,hn];exact hnext
 have v1:=yA (sub s l) (xl.imp id λh=>h.1);have v2:=yA (sub s r) (xr.imp id λh=>h.1);have bindC:jr (sub s l).name=true\/jr (sub s r).name=true->(∃q:Bool,G 100 [.agg [sv (sub s l).name,jS (sub s l).args,sv (sub s r).name,jS (sub s r).args]]=some (.tup [sb [jv (sub s l) (sub s r)],vb q],[])/\(q=false->zE res=zE none)/\(q=true-> ∃q2:Bool,∃u:ju,G 101 [sb s,sb [jv (sub s l) (sub s r)]]=some (.tup [sb u,vb q2],[])/\(q2=false->zE res=zE none)/\(q2=true->jai (nA (off+1)) (nA (W.length-(off+1))) (JY u) (W.map ec) []=zE res))):=by
  intro hvar;have hst:=Y9 (rest:=rest) sl sr hd hvar;refine⟨_,jar _ _ xl xr (by omega) (by omega) hvar,λhq=>?_,λhq=>?_⟩
  .rw [hq,Bool.false_and,if_neg Bool.false_ne_true]at hst;rw[jV hst hu]
  .rw [hq,Bool.true_and]at hst;have hvp:jB [jv (sub s l) (sub s r)]=true:=by
    rw[Bool.and_eq_true]at hq;exact hq.2
   have ec1:=jco s [jv (sub s l) (sub s r)] hv hvp;cases hc:jB (kC s [jv (sub s l) (sub s r)])
   .rw [hc,if_neg Bool.false_ne_true]at hst ec1;exact⟨false,[],ec1,λ_=>by rw[jV hst hu],λh=>by cases h⟩
   .rw [hc,if_pos rfl]at hst ec1;refine⟨true,_,ec1,(λh=>by cases h),λ_=>?_⟩;have hnext:=ih _ _ res (zx hi hst).1 (ye hi hg hst) (zl hst hu);exact hnext.1 W (off+1) d2 (by omega) hlen
 have close:jr (sub s l).name=true\/jr (sub s r).name=true->_:=bindC;clear bindC;cases vl:jr (sub s l).name<;>rw[vl]at v1
 rotate_left
 .obtain ⟨q,b1,b2,b3⟩:=close (Or.inl vl);cases q
  .rw [b2 rfl];simp only[jg,w1,w2,g1,g2,g3,g4,Nat.add_zero,r1,r2,e1,e2,e3,v1,v2,b1];rfl
  .obtain ⟨q2,u,b4,b5,b6⟩:=b3 rfl;cases q2
   .rw [b5 rfl];simp only[jg,w1,w2,g1,g2,g3,g4,Nat.add_zero,r1,r2,e1,e2,e3,v1,v2,b1,b4];rfl
   .rw [<-b6 rfl];simp only[jg,w1,w2,g1,g2,g3,g4,Nat.add_zero,r1,r2,e1,e2,e3,v1,v2,b1,b4,hn]
 cases vr:jr (sub s r).name<;>rw[vr]at v2
 rotate_left
 .obtain ⟨q,b1,b2,b3⟩:=close (Or.inr vr);cases q
  .rw [b2 rfl];simp only[jg,w1,w2,g1,g2,g3,g4,Nat.add_zero,r1,r2,e1,e2,e3,v1,v2,b1];rfl
  .obtain ⟨q2,u,b4,b5,b6⟩:=b3 rfl;cases q2
   .rw [b5 rfl];simp only[jg,w1,w2,g1,g2,g3,g4,Nat.add_zero,r1,r2,e1,e2,e3,v1,v2,b1,b4];rfl
   .rw [<-b6 rfl];simp only[jg,w1,w2,g1,g2,g3,g4,Nat.add_zero,r1,r2,e1,e2,e3,v1,v2,b1,b4,hn]
 have hst:=Qa (rest:=rest) sl sr hd vl vr;by_cases hnm:(sub s l).name=(sub s r).name;rotate_left
 .rw [if_neg (λh=>hnm h.1)]at hst;have hnd:=decide_eq_false hnm;rw[jV hst hu];simp only[jg,w1,w2,g1,g2,g3,g4,Nat.add_zero,r1,r2,e1,e2,e3,v1,v2,hnd];rfl
 have hnd:=decide_eq_true hnm;by_cases hal:(sub s l).args.length=(sub s r).args.length;rotate_left
 .rw [if_neg (λh=>hal h.2)]at hst;have hal':decide ((((sub s l).args.length:Nat):Int)=(((sub s r).args.length:Nat):Int))=false:=decide_eq_false (by omega);rw[jV hst hu];simp only[jg,w1,w2,g1,g2,g3,g4,Nat.add_zero,r1,r2,e1,e2,e3,v1,v2,hnd,hal'];rfl
 rw[if_pos ⟨hnm,hal⟩]at hst;have hnext:=ih _ _ res (zx hi hst).1 (ye hi hg hst) (zl hst hu);have hnext:=hnext.2.1;have hin:=jwj s W (off+1) hlen (sub s l) (sub s r) hal (jaT xl);rw[d2]at hin;rw[hnext]at hin;have hal':decide ((((sub s l).args.length:Nat):Int)=(((sub s r).args.length:Nat):Int))=true:=decide_eq_true (by omega);simp only[jg,w1,w2,g1,g2,g3,g4,Nat.add_zero,r1,r2,e1,e2,e3,v1,v2,hnd,hal',hn];exact hin
theorem un8(k:Nat)(ih:∀(s:ju)(es:yH)(res:Option ju),Jt s es->Hgt s 126 es->kH k s es=some res->US s es (zE res))(s:ju)(l r:T)(rest:yH)(hi:Jt s ((l,r)::rest))(hg:Hgt s 126 ((l,r)::rest))(res:Option ju)(hu:kH (k+1) s ((l,r)::rest)=some res)(W:yH)(hW:W=(l,r)::rest)(hlen:W.length<=1000):jfD (JY s) (W.map ec) []=zE res:=by
 have hW0:W.drop 0=(l,r)::rest:=hW;rw[<-un2 k ih s l r rest hi hg res hu W 0 hW0 hlen];obtain⟨d1,d2,d3⟩:=y8 hW0;obtain⟨r1,r2⟩:=Yx d1;have w1:kE (nA 0)=0:=rfl;have w2:kE (nA W.length)=W.length:=rfl;have f1:jq .gtr false (nA W.length) (vi 0)=some (vb true):=by
  show some (vb (decide ((0:Int)<((W.length:Nat):Int))))=_;rw[decide_eq_true (by omega)]
 have f3:pB W.length (kY (W.map ec) 0) none=some W.length:=by
  rw[show kY (W.map ec) 0=W.length by rw[yk,List.length_map];rfl];exact zd (Nat.le_refl _)
 have g2:ZB W.length (vi 0)=some 0:=zR (i:=0) (by omega);have g3:pB (zS (W.map ec)) (kY (W.map ec) 0) none=some W.length:=by
  rw[zU,f3]
 have g4:pB 0 W.length (some (vi 1))=some 1:=yO (n:=1) (by omega);have g0:(0:Int)<((W.length:Nat):Int):=by omega
 rw[ju8,jrd,Nat.sub_zero];simp only[jg,w1,w2,f1,f3,g0,g2,g3,g4,r1,r2]
theorem un1(k:Nat)(ih:∀(s:ju)(es:yH)(res:Option ju),Jt s es->Hgt s 126 es->kH k s es=some res->US s es (zE res))(l r:T)(rest:yH)(hi:Jt [] ((l,r)::rest))(hg:Hgt [] 126 ((l,r)::rest))(res:Option ju)(hu:kH (k+1) [] ((l,r)::rest)=some res)(W:yH)(off:Nat)(hW:W.drop off=(l,r)::rest)(hlen:W.length<=1000):jit (nA off) (nA (W.length-off)) (W.map ec) [] []=zE res:=by
 obtain⟨d1,d2,d3⟩:=y8 hW;obtain⟨r1,r2⟩:=Yx d1;obtain⟨al,ar,nl,nr⟩:=ZP hi;have hv:=hi.1;have e1:=Jd [] hv l al (by omega);have e2:=Jd [] hv r ar (by omega);have w1:kE (nA off)=off:=rfl;have w2:kE (nA (W.length-off))=W.length-off:=rfl;have g1:jq .gtr false (nA (W.length-off)) (vi 0)=some (vb true):=by
  show some (vb (decide ((0:Int)<((W.length-off:Nat):Int))))=_;rw[decide_eq_true (by omega)]
 have g2:ZB (W.length-off) (vi 0)=some 0:=zR (i:=0) (by omega);have g3:pB (W.length-off) (kY (W.map ec) off) none=some (W.length-off):=by
  rw[show kY (W.map ec) off=W.length-off by rw[yk,List.length_map]];exact zd (Nat.le_refl _)
 have g4:pB 0 (W.length-off) (some (vi 1))=some 1:=yO (n:=1) (by omega);have hn:j6 (W.length-off) 1=W.length-(off+1):=by unfold j6;omega
 rw[jrc];cases sl:jH (sub [] l)<;>rw[sl]at e1
 .have e1:G 82 [.agg [.sl 3 []],tm l]=some (.tup [.agg [sv [],.sl 2 []],vb false],[]):=e1;have hr:res=none:=jV (by unfold yl;rw[if_pos (Or.inl sl)]) hu;subst hr;obtain⟨q,e2⟩:∃q:T×Bool,G 82 [.agg [.sl 3 []],tm r]=some (.tup [tm q.1,vb q.2],[]):=by
   cases h:jH (sub [] r)<;>rw[h]at e2
   .exact ⟨(.mk [] [],false),e2⟩
   .exact ⟨(sub [] r,true),e2⟩
  simp only[jg,w1,w2,g1,g2,g3,g4,Nat.add_zero,r1,r2,e1,e2];rfl
 have e1:G 82 [.agg [.sl 3 []],tm l]=some (.tup [tm (sub [] l),vb true],[]):=e1;cases sr:jH (sub [] r)<;>rw[sr]at e2
 .have e2:G 82 [.agg [.sl 3 []],tm r]=some (.tup [.agg [sv [],.sl 2 []],vb false],[]):=e2;have hr:res=none:=jV (by unfold yl;rw[if_pos (Or.inr sr)]) hu;subst hr;simp only[jg,w1,w2,g1,g2,g3,g4,Nat.add_zero,r1,r2,e1,e2];rfl
 have e2:G 82 [.agg [.sl 3 []],tm r]=some (.tup [tm (sub [] r),vb true],[]):=e2;have xl:K0 (sub [] l):=K0.sub hv al;have xr:K0 (sub [] r):=K0.sub hv ar;have ml:=kT sl;have mr:=kT sr;have tl:=xl.tz (by omega);have tr:=xr.tz (by omega);have e3:=KP (sub [] l) tl.wf (sub [] r) tr.wf;have ll:=(jI hv).1;cases hd:dq (sub [] l) (sub [] r)<;>rw[hd]at e3
 rotate_left
 .have hst:=Qb (rest:=rest) sl sr hd;have hnext:=ih _ _ res (zx hi hst).1 (ye hi hg hst) (zl hst hu);have hnext:=(hnext.2.2 rfl).1 W (off+1) d2 (by omega) hlen;simp only[jg,w1,w2,g1,g2,g3,g4,Nat.add_zero,r1,r2,e1,e2,e3,hn];exact hnext
 have v1:=yA (sub [] l) (xl.imp id λh=>h.1);have v2:=yA (sub [] r) (xr.imp id λh=>h.1);have bindC:jr (sub [] l).name=true\/jr (sub [] r).name=true->(∃q:Bool,G 100 [.agg [sv (sub [] l).name,jS (sub [] l).args,sv (sub [] r).name,jS (sub [] r).args]]=some (.tup [sb [jv (sub [] l) (sub [] r)],vb q],[])/\(q=false->zE res=zE none)/\(q=true-> ∃q2:Bool,∃u:ju,G 101 [.agg [.sl 3 []],sb [jv (sub [] l) (sub [] r)]]=some (.tup [sb u,vb q2],[])/\(q2=false->zE res=zE none)/\(q2=true->jai (nA (off+1)) (nA (W.length-(off+1))) (JY u) (W.map ec) []=zE res))):=by
  intro hvar;have hst:=Y9 (rest:=rest) sl sr hd hvar;refine⟨_,jar _ _ xl xr (by omega) (by omega) hvar,λhq=>?_,λhq=>?_⟩
  .rw [hq,Bool.false_and,if_neg Bool.false_ne_true]at hst;rw[jV hst hu]
  .rw [hq,Bool.true_and]at hst;have hvp:jB [jv (sub [] l) (sub [] r)]=true:=by
    rw[Bool.and_eq_true]at hq;exact hq.2
   have ec1:=jco [] [jv (sub [] l) (sub [] r)] hv hvp;cases hc:jB (kC [] [jv (sub [] l) (sub [] r)])
   .rw [hc,if_neg Bool.false_ne_true]at hst ec1;exact⟨false,[],ec1,λ_=>by rw[jV hst hu],λh=>by cases h⟩
   .rw [hc,if_pos rfl]at hst ec1;refine⟨true,_,ec1,(λh=>by cases h),λ_=>?_⟩;have hnext:=ih _ _ res (zx hi hst).1 (ye hi hg hst) (zl hst hu);exact hnext.1 W (off+1) d2 (by omega) hlen
 have close:jr (sub [] l).name=true\/jr (sub [] r).name=true->_:=bindC;clear bindC;cases vl:jr (sub [] l).name<;>rw[vl]at v1
 rotate_left
 .obtain ⟨q,b1,b2,b3⟩:=close (Or.inl vl);cases q
  .rw [b2 rfl];simp only[jg,w1,w2,g1,g2,g3,g4,Nat.add_zero,r1,r2,e1,e2,e3,v1,v2,b1];rfl
  .obtain ⟨q2,u,b4,b5,b6⟩:=b3 rfl;cases q2
   .rw [b5 rfl];simp only[jg,w1,w2,g1,g2,g3,g4,Nat.add_zero,r1,r2,e1,e2,e3,v1,v2,b1,b4];rfl
   .rw [<-b6 rfl];simp only[jg,w1,w2,g1,g2,g3,g4,Nat.add_zero,r1,r2,e1,e2,e3,v1,v2,b1,b4,hn]
 cases vr:jr (sub [] r).name<;>rw[vr]at v2
 rotate_left
 .obtain ⟨q,b1,b2,b3⟩:=close (Or.inr vr);cases q
  .rw [b2 rfl];simp only[jg,w1,w2,g1,g2,g3,g4,Nat.add_zero,r1,r2,e1,e2,e3,v1,v2,b1];rfl
  .obtain ⟨q2,u,b4,b5,b6⟩:=b3 rfl;cases q2
   .rw [b5 rfl];simp only[jg,w1,w2,g1,g2,g3,g4,Nat.add_zero,r1,r2,e1,e2,e3,v1,v2,b1,b4];rfl
   .rw [<-b6 rfl];simp only[jg,w1,w2,g1,g2,g3,g4,Nat.add_zero,r1,r2,e1,e2,e3,v1,v2,b1,b4,hn]
 have hst:=Qa (rest:=rest) sl sr hd vl vr;by_cases hnm:(sub [] l).name=(sub [] r).name;rotate_left
 .rw [if_neg (λh=>hnm h.1)]at hst;have hnd:=decide_eq_false hnm;rw[jV hst hu];simp only[jg,w1,w2,g1,g2,g3,g4,Nat.add_zero,r1,r2,e1,e2,e3,v1,v2,hnd];rfl
 have hnd:=decide_eq_true hnm;by_cases hal:(sub [] l).args.length=(sub [] r).args.length;rotate_left
 .rw [if_neg (λh=>hal h.2)]at hst;have hal':decide ((((sub [] l).args.length:Nat):Int)=(((sub [] r).args.length:Nat):Int))=false:=decide_eq_false (by omega);rw[jV hst hu];simp only[jg,w1,w2,g1,g2,g3,g4,Nat.add_zero,r1,r2,e1,e2,e3,v1,v2,hnd,hal'];rfl
 rw[if_pos ⟨hnm,hal⟩]at hst;have hnext:=ih _ _ res (zx hi hst).1 (ye hi hg hst) (zl hst hu);have hnext:=(hnext.2.2 rfl).2;have hin:=jwi W (off+1) hlen (sub [] l) (sub [] r) hal (jaT xl);rw[d2]at hin;rw[hnext]at hin;have hal':decide ((((sub [] l).args.length:Nat):Int)=(((sub [] r).args.length:Nat):Int))=true:=decide_eq_true (by omega);simp only[jg,w1,w2,g1,g2,g3,g4,Nat.add_zero,r1,r2,e1,e2,e3,v1,v2,hnd,hal',hn];exact hin
theorem un6(k:Nat)(ih:∀(s:ju)(es:yH)(res:Option ju),Jt s es->Hgt s 126 es->kH k s es=some res->US s es (zE res))(l r:T)(rest:yH)(hi:Jt [] ((l,r)::rest))(hg:Hgt [] 126 ((l,r)::rest))(res:Option ju)(hu:kH (k+1) [] ((l,r)::rest)=some res)(W:yH)(hW:W=(l,r)::rest)(hlen:W.length<=1000):jdB (W.map ec) [] []=zE res:=by
 have hW0:W.drop 0=(l,r)::rest:=hW;rw[<-un1 k ih l r rest hi hg res hu W 0 hW0 hlen];obtain⟨d1,d2,d3⟩:=y8 hW0;obtain⟨r1,r2⟩:=Yx d1;have w1:kE (nA 0)=0:=rfl;have w2:kE (nA W.length)=W.length:=rfl;have f1:jq .gtr false (nA W.length) (vi 0)=some (vb true):=by
  show some (vb (decide ((0:Int)<((W.length:Nat):Int))))=_;rw[decide_eq_true (by omega)]
 have f3:pB W.length (kY (W.map ec) 0) none=some W.length:=by
  rw[show kY (W.map ec) 0=W.length by rw[yk,List.length_map];rfl];exact zd (Nat.le_refl _)
 have g2:ZB W.length (vi 0)=some 0:=zR (i:=0) (by omega);have g3:pB (zS (W.map ec)) (kY (W.map ec) 0) none=some W.length:=by
  rw[zU,f3]
 have g4:pB 0 W.length (some (vi 1))=some 1:=yO (n:=1) (by omega);have g0:(0:Int)<((W.length:Nat):Int):=by omega
 rw[jre,jrc,Nat.sub_zero];simp only[jg,w1,w2,f1,f3,g0,g2,g3,g4,r1,r2]
theorem jvy(s:ju):US s [] (zE (some s)):=by
 refine⟨λW off hW h1 h2=>?_,?_,λhs=>?_⟩
 .have h3:=congrArg List.length hW;rw[List.length_drop,List.length_nil]at h3;have w2:kE (nA (W.length-off))=W.length-off:=rfl;have g1:jq .gtr false (nA (W.length-off)) (vi 0)=some (vb false):=by
   show some (vb (decide ((0:Int)<((W.length-off:Nat):Int))))=_;rw[decide_eq_false (by omega)]
  rw[jrd];simp only[jg,w2,g1];rfl
 .rw [ju8];have g1:jq .gtr false (qS (List.map ec [])) (vi 0)=some (vb false):=rfl;simp only[jg];rfl
 .subst hs;refine⟨λW off hW h1 h2=>?_,?_⟩
  .have h3:=congrArg List.length hW;rw[List.length_drop,List.length_nil]at h3;have w2:kE (nA (W.length-off))=W.length-off:=rfl;have g1:jq .gtr false (nA (W.length-off)) (vi 0)=some (vb false):=by
    show some (vb (decide ((0:Int)<((W.length-off:Nat):Int))))=_;rw[decide_eq_false (by omega)]
   rw[jrc];simp only[jg,w2,g1];rfl
  .rw [jre];have g1:jq .gtr false (qS (List.map ec [])) (vi 0)=some (vb false):=rfl;simp only[jg];rfl
theorem jyG:∀(k:Nat)(s:ju)(es:yH)(res:Option ju),Jt s es->Hgt s 126 es->kH k s es=some res->US s es (zE res):=by
 intro k;induction k with
 |zero=>
  intro s es res hi hg hu;cases es with
  |nil=>simp only[kH,Option.some.injEq]at hu;rw[<-hu];exact jvy s
  |cons p es=>simp[kH]at hu
 |succ k ih=>
  intro s es res hi hg hu;cases es with
  |nil=>simp only[kH,Option.some.injEq]at hu;rw[<-hu];exact jvy s
  |cons p rest=>
   obtain⟨l,r⟩:=p;have hl:=hg.len;refine⟨λW off hW _ hlen=>un2 k ih s l r rest hi hg res hu W off hW hlen,un8 k ih s l r rest hi hg res hu _ rfl (by omega),λhs=>?_⟩;subst hs;exact⟨λW off hW _ hlen=>un1 k ih l r rest hi hg res hu W off hW hlen,un6 k ih l r rest hi hg res hu _ rfl (by omega)⟩
theorem jAQ(W:yH):jpz (W.map ec) [] []=jdB (W.map ec) [] []:=by
 rw[jx9,jre]
theorem jss(a b:T)(ha:Exx a)(hb:Exx b):G 57 [tm a,tm b]=zE (jca a b):=by
 obtain⟨k,hk⟩:=YH ha hb;have h:=((jyG k [] [(a,b)] _ (jnG ha hb) (jx1 a b) hk).2.2 rfl).2;rw[<-jAQ]at h;rw[g57];simp only[jg];exact h
theorem jtv(s:ju)(W:yH)(off:Nat)(hW:W.length<=1000)(x y:T)(hl:x.args.length=y.args.length)(h4:x.args.length<=4) :
  jmt (nA off) (nA (W.length-off)) (vb true) (vi 0) (JY s) (sv x.name) (jS x.args) (sv y.name) (jS y.args) (W.map ec) [] [] []=jfC (JY s) ((x.args.zip y.args++W.drop off).map ec) [] []:=by
 have h1:kE (nA off)=off:=rfl;have h2:kE (nA (W.length-off))=W.length-off:=rfl;have hend:jO (((x.args.zip y.args).map ec).length+((W.drop off).map ec).length) 80=true:=by
  rw[List.length_map,List.length_map,List.length_zip,List.length_drop];exact jcZ (by omega)
 have hzl:((x.args.zip y.args).map ec).length=x.args.length:=by rw[List.length_map,List.length_zip];omega
 have happ:j4 ((x.args.zip y.args).map ec) ((W.drop off).map ec)=(x.args.zip y.args++W.drop off).map ec:=by rw[List.map_append];rfl
 have step:∀i,(hi:i<x.args.length)->(hi2:i<y.args.length)->j4 (((x.args.zip y.args).take i).map ec) [[sv x.args[i].name,jS x.args[i].args,sv y.args[i].name,jS y.args[i].args]]=((x.args.zip y.args).take (i+1)).map ec:=λi hi hi2=>jbq hi hi2;have key:=upto (P:=λi=>jpy (nA off) (nA (W.length-off)) (vb true) (vi (i:Nat)) (JY s) (sv x.name) (jS x.args) (sv y.name) (jS y.args) (W.map ec) (((x.args.zip y.args).take i).map ec) [] []=jfC (JY s) ((x.args.zip y.args++W.drop off).map ec) [] []) (n:=x.args.length) ?_ ?_
 .have hend2:(x.args.zip y.args).take x.args.length=x.args.zip y.args:=List.take_of_length_le (by rw[List.length_zip];omega)
  rw[jx8];by_cases h0:0<x.args.length
  .have hi:=h0;have hi2:0<y.args.length:=by omega
   have hlt:(0:Int)<((x.args.length:Nat):Int):=by omega
   have ix:=jb (k:=2) (f:=jm) hi;have ix2:=jb (k:=2) (f:=jm) hi2;have ta:=step 0 hi hi2;simp only[List.take_zero,List.map_nil,Int.natCast_zero,Nat.zero_add]at ta ix ix2;have hf:jO 1 80=true:=jcZ (by omega);have hck:ck (0+1)=some (vi ((1:Nat):Int)):=jZ (n:=0+1) (by omega) (by omega);have key:=key 1 (by omega);rw[<-key];simp only[jg,hlt,ix,ix2,ji,hf,hck,h1,h2];generalize hB:zk _ _ _=B;have hB':B=some (.agg [sv x.args[0].name,jS x.args[0].args,sv y.args[0].name,jS y.args[0].args]):=by rw[<-hB];kernel_rfl
   rw[hB'];simp only[jg,ta]
  .have hlt:¬(0:Int)<((x.args.length:Nat):Int):=by omega
   have he:x.args=[]:=List.eq_nil_of_length_eq_zero (by omega);have hz:x.args.zip y.args=[]:=by rw[he];rfl
   rw[hz]at hend happ⊢;have hend:jO ((W.drop off).map ec).length 80=true:=by simpa using hend
   have happ:j4 [] ((W.drop off).map ec)=(W.drop off).map ec:=rfl;simp only[jg,hlt,h1,h2,YK,List.nil_append];rw[List.length_map]at hend;simp only[jg,hend,happ]
 .have hend2:(x.args.zip y.args).take x.args.length=x.args.zip y.args:=List.take_of_length_le (by rw[List.length_zip];omega)
  rw[hend2,ju2];have hlt:¬((x.args.length:Nat):Int)<((x.args.length:Nat):Int):=by omega
  rw[hzl,List.length_map]at hend;simp only[jg,hlt,h1,h2,YK,happ];rw[List.length_zip,Nat.min_eq_left (by omega)];simp only[jg,hend]
 .intro i hi ih;have hi2:i<y.args.length:=by omega
  have hlt:((i:Nat):Int)<((x.args.length:Nat):Int):=by omega
  have ta:=step i hi hi2;have li:(((x.args.zip y.args).take i).map ec).length=i:=take_len (by rw[List.length_zip];omega);have hf:jO (i+1) 80=true:=jcZ (by omega);have hck:ck ((i:Int)+1)=some (vi ((i+1:Nat):Int)):=jZ (by omega) (by omega);generalize ((x.args.zip y.args).take i).map ec=R at *;rw[ju2,<-ih];simp only[jg,hlt,jb hi,jb hi2,ji];generalize hB:zk _ _ _=B;have hB':B=some (.agg [sv x.args[i].name,jS x.args[i].args,sv y.args[i].name,jS y.args[i].args]):=by rw[<-hB];kernel_rfl
  rw[hB'];simp only[jg,li,hf,ta,hck,h1,h2]
theorem jtu(W:yH)(off:Nat)(hW:W.length<=1000)(x y:T)(hl:x.args.length=y.args.length)(h4:x.args.length<=4) :
  jms (nA off) (nA (W.length-off)) (vb true) (vi 0) (sv x.name) (jS x.args) (sv y.name) (jS y.args) (W.map ec) [] [] [] []=jdA ((x.args.zip y.args++W.drop off).map ec) [] [] []:=by
 have h1:kE (nA off)=off:=rfl;have h2:kE (nA (W.length-off))=W.length-off:=rfl;have hend:jO (((x.args.zip y.args).map ec).length+((W.drop off).map ec).length) 80=true:=by
  rw[List.length_map,List.length_map,List.length_zip,List.length_drop];exact jcZ (by omega)
 have hzl:((x.args.zip y.args).map ec).length=x.args.length:=by rw[List.length_map,List.length_zip];omega
 have happ:j4 ((x.args.zip y.args).map ec) ((W.drop off).map ec)=(x.args.zip y.args++W.drop off).map ec:=by rw[List.map_append];rfl
 have step:∀i,(hi:i<x.args.length)->(hi2:i<y.args.length)->j4 (((x.args.zip y.args).take i).map ec) [[sv x.args[i].name,jS x.args[i].args,sv y.args[i].name,jS y.args[i].args]]=((x.args.zip y.args).take (i+1)).map ec:=λi hi hi2=>jbq hi hi2;have key:=upto (P:=λi=>jpx (nA off) (nA (W.length-off)) (vb true) (vi (i:Nat)) (sv x.name) (jS x.args) (sv y.name) (jS y.args) (W.map ec) (((x.args.zip y.args).take i).map ec) [] [] []=jdA ((x.args.zip y.args++W.drop off).map ec) [] [] []) (n:=x.args.length) ?_ ?_
 .have hend2:(x.args.zip y.args).take x.args.length=x.args.zip y.args:=List.take_of_length_le (by rw[List.length_zip];omega)
  rw[jx7];by_cases h0:0<x.args.length
  .have hi:=h0;have hi2:0<y.args.length:=by omega
   have hlt:(0:Int)<((x.args.length:Nat):Int):=by omega
   have ix:=jb (k:=2) (f:=jm) hi;have ix2:=jb (k:=2) (f:=jm) hi2;have ta:=step 0 hi hi2;simp only[List.take_zero,List.map_nil,Int.natCast_zero,Nat.zero_add]at ta ix ix2;have hf:jO 1 80=true:=jcZ (by omega);have hck:ck (0+1)=some (vi ((1:Nat):Int)):=jZ (n:=0+1) (by omega) (by omega);have key:=key 1 (by omega);rw[<-key];simp only[jg,hlt,ix,ix2,ji,hf,hck,h1,h2];generalize hB:zk _ _ _=B;have hB':B=some (.agg [sv x.args[0].name,jS x.args[0].args,sv y.args[0].name,jS y.args[0].args]):=by rw[<-hB];kernel_rfl
   rw[hB'];simp only[jg,ta]
  .have hlt:¬(0:Int)<((x.args.length:Nat):Int):=by omega
   have he:x.args=[]:=List.eq_nil_of_length_eq_zero (by omega);have hz:x.args.zip y.args=[]:=by rw[he];rfl
   rw[hz]at hend happ⊢;have hend:jO ((W.drop off).map ec).length 80=true:=by simpa using hend
   have happ:j4 [] ((W.drop off).map ec)=(W.drop off).map ec:=rfl;simp only[jg,hlt,h1,h2,YK,List.nil_append];rw[List.length_map]at hend;simp only[jg,hend,happ]
 .have hend2:(x.args.zip y.args).take x.args.length=x.args.zip y.args:=List.take_of_length_le (by rw[List.length_zip];omega)
  rw[hend2,ju1];have hlt:¬((x.args.length:Nat):Int)<((x.args.length:Nat):Int):=by omega
  rw[hzl,List.length_map]at hend;simp only[jg,hlt,h1,h2,YK,happ];rw[List.length_zip,Nat.min_eq_left (by omega)];simp only[jg,hend]
 .intro i hi ih;have hi2:i<y.args.length:=by omega
  have hlt:((i:Nat):Int)<((x.args.length:Nat):Int):=by omega
  have ta:=step i hi hi2;have li:(((x.args.zip y.args).take i).map ec).length=i:=take_len (by rw[List.length_zip];omega);have hf:jO (i+1) 80=true:=jcZ (by omega);have hck:ck ((i:Int)+1)=some (vi ((i+1:Nat):Int)):=jZ (by omega) (by omega);generalize ((x.args.zip y.args).take i).map ec=R at *;rw[ju1,<-ih];simp only[jg,hlt,jb hi,jb hi2,ji];generalize hB:zk _ _ _=B;have hB':B=some (.agg [sv x.args[i].name,jS x.args[i].args,sv y.args[i].name,jS y.args[i].args]):=by rw[<-hB];kernel_rfl
  rw[hB'];simp only[jg,li,hf,ta,hck,h1,h2]
def USS(s:ju)(es:yH)(o:Xe):Prop:=
 (∀(W:yH)(off:Nat),W.drop off=es->off<=W.length->W.length<=1000->jah (nA off) (nA (W.length-off)) (JY s) (W.map ec) [] []=o)/\jfC (JY s) (es.map ec) [] []=o/\
 (s=[]->(∀(W:yH)(off:Nat),W.drop off=es->off<=W.length->W.length<=1000->jis (nA off) (nA (W.length-off)) (W.map ec) [] [] []=o)/\jdA (es.map ec) [] [] []=o)
theorem jyJ(k:Nat)(ih:∀(s:ju)(es:yH)(res:Option ju),Jt s es->Hgt s 126 es->kH k s es=some res->USS s es (zE res))(s:ju)(l r:T)(rest:yH)(hi:Jt s ((l,r)::rest))(hg:Hgt s 126 ((l,r)::rest))(res:Option ju)(hu:kH (k+1) s ((l,r)::rest)=some res)(W:yH)(off:Nat)(hW:W.drop off=(l,r)::rest)(hlen:W.length<=1000):jah (nA off) (nA (W.length-off)) (JY s) (W.map ec) [] []=zE res:=by
 obtain⟨d1,d2,d3⟩:=y8 hW;obtain⟨r1,r2⟩:=Yx d1;obtain⟨al,ar,nl,nr⟩:=ZP hi;have hv:=hi.1;have e1:=Ku s hv l al (by omega);have e2:=Ku s hv r ar (by omega);have w1:kE (nA off)=off:=rfl;have w2:kE (nA (W.length-off))=W.length-off:=rfl;have g1:jq .gtr false (nA (W.length-off)) (vi 0)=some (vb true):=by
  show some (vb (decide ((0:Int)<((W.length-off:Nat):Int))))=_;rw[decide_eq_true (by omega)]
 have g2:ZB (W.length-off) (vi 0)=some 0:=zR (i:=0) (by omega);have g3:pB (W.length-off) (kY (W.map ec) off) none=some (W.length-off):=by
  rw[show kY (W.map ec) off=W.length-off by rw[yk,List.length_map]];exact zd (Nat.le_refl _)
 have g4:pB 0 (W.length-off) (some (vi 1))=some 1:=yO (n:=1) (by omega);have hn:j6 (W.length-off) 1=W.length-(off+1):=by unfold j6;omega
 rw[jra];cases sl:jH (sub s l)<;>rw[sl]at e1
 .have e1:G 90 [sb s,tm l]=some (.tup [.agg [sv [],.sl 2 []],vb false],[]):=e1;have hr:res=none:=jV (by unfold yl;rw[if_pos (Or.inl sl)]) hu;subst hr;obtain⟨q,e2⟩:∃q:T×Bool,G 90 [sb s,tm r]=some (.tup [tm q.1,vb q.2],[]):=by
   cases h:jH (sub s r)<;>rw[h]at e2
   .exact ⟨(.mk [] [],false),e2⟩
   .exact ⟨(sub s r,true),e2⟩
  simp only[jg,w1,w2,g1,g2,g3,g4,Nat.add_zero,r1,r2,e1,e2];rfl
 have e1:G 90 [sb s,tm l]=some (.tup [tm (sub s l),vb true],[]):=e1;cases sr:jH (sub s r)<;>rw[sr]at e2
 .have e2:G 90 [sb s,tm r]=some (.tup [.agg [sv [],.sl 2 []],vb false],[]):=e2;have hr:res=none:=jV (by unfold yl;rw[if_pos (Or.inr sr)]) hu;subst hr;simp only[jg,w1,w2,g1,g2,g3,g4,Nat.add_zero,r1,r2,e1,e2];rfl
 have e2:G 90 [sb s,tm r]=some (.tup [tm (sub s r),vb true],[]):=e2;have xl:K0 (sub s l):=K0.sub hv al;have xr:K0 (sub s r):=K0.sub hv ar;have ml:=kT sl;have mr:=kT sr;have tl:=xl.tz (by omega);have tr:=xr.tz (by omega);have e3:=jf7 (sub s l) tl.wf (sub s r) tr.wf;have ll:=(jI hv).1;cases hd:dq (sub s l) (sub s r)<;>rw[hd]at e3
 rotate_left
 .have hst:=Qb (rest:=rest) sl sr hd;have hnext:=ih _ _ res (zx hi hst).1 (ye hi hg hst) (zl hst hu);have hnext:=hnext.1 W (off+1) d2 (by omega) hlen;simp only[jg,w1,w2,g1,g2,g3,g4,Nat.add_zero,r1,r2,e1,e2,e3,hn];exact hnext
 have v1:=yc (sub s l).name ((kQ _).1 tl.wf).1;have v2:=yc (sub s r).name ((kQ _).1 tr.wf).1;have bindC:jr (sub s l).name=true\/jr (sub s r).name=true-> ∃q2:Bool,∃u:ju,G 92 [sb s,sv (jv (sub s l) (sub s r)).1,tm (jv (sub s l) (sub s r)).2]=some (.tup [sb u,vb q2],[])/\(q2=false->zE res=zE none)/\(q2=true->jah (nA (off+1)) (nA (W.length-(off+1))) (JY u) (W.map ec) [] []=zE res):=by
  intro hvar;have hst:=Y9 (rest:=rest) sl sr hd hvar;obtain⟨bv,hor⟩:=jdF hvar;have bz:Tz (jv (sub s l) (sub s r)).2:=hor.elim (λh=>by rw[h.2];exact tl) λh=>by rw[h.2];exact tr
  have bk:(jv (sub s l) (sub s r)).1∈ke (jv (sub s l) (sub s r)).2\/(jv (sub s l) (sub s r)).2.name≠(jv (sub s l) (sub s r)).1:=by
   by_cases hnm:(jv (sub s l) (sub s r)).2.name=(jv (sub s l) (sub s r)).1
   .left;rw[vsv (by rw[hnm];exact bv),hnm];simp
   .exact Or.inr hnm
  obtain⟨z,eb⟩:=jf9 s hv _ _ bv bz bk;rw[<-Bool.and_assoc]at eb;cases hc:(!decide ((jv (sub s l) (sub s r)).1∈ke (jv (sub s l) (sub s r)).2) && jB [jv (sub s l) (sub s r)]) && jB (kC s [jv (sub s l) (sub s r)])
  .rw [hc,if_neg Bool.false_ne_true]at hst;have eb:=eb.trans (by rw[show((jv (sub s l) (sub s r)).1,(jv (sub s l) (sub s r)).2)=jv (sub s l) (sub s r) from rfl,hc,if_neg Bool.false_ne_true]);exact⟨false,z,eb,λ_=>by rw[jV hst hu],λh=>by cases h⟩
  .rw [hc,if_pos rfl]at hst;have eb:=eb.trans (by rw[show((jv (sub s l) (sub s r)).1,(jv (sub s l) (sub s r)).2)=jv (sub s l) (sub s r) from rfl,hc,if_pos rfl]);refine⟨true,_,eb,(λh=>by cases h),λ_=>?_⟩;have hnext:=ih _ _ res (zx hi hst).1 (ye hi hg hst) (zl hst hu);exact hnext.1 W (off+1) d2 (by omega) hlen
 cases vl:jr (sub s l).name<;>rw[vl]at v1
 rotate_left
 .cases vr:jr (sub s r).name<;>rw[vr]at v2
  .obtain ⟨q2,u,b1,b2,b3⟩:=bindC (Or.inl vl);have hbd:jv (sub s l) (sub s r)=((sub s l).name,sub s r):=if_neg (by rw[vl,vr];simp);rw[hbd]at b1;cases q2
   .rw [b2 rfl];simp only[jg,w1,w2,g1,g2,g3,g4,Nat.add_zero,r1,r2,e1,e2,e3,v1,v2,b1];rfl
   .rw [<-b3 rfl];simp only[jg,w1,w2,g1,g2,g3,g4,Nat.add_zero,r1,r2,e1,e2,e3,v1,v2,b1,hn]
  .cases hc:zz (sub s l).name (sub s r).name
   .obtain ⟨q2,u,b1,b2,b3⟩:=bindC (Or.inl vl);have hbd:jv (sub s l) (sub s r)=((sub s l).name,sub s r):=if_neg (by rw[vl,vr,hc];simp);rw[hbd]at b1;cases q2
    .rw [b2 rfl];simp only[jg,w1,w2,g1,g2,g3,g4,Nat.add_zero,r1,r2,e1,e2,e3,v1,v2,hc,b1];rfl
    .rw [<-b3 rfl];simp only[jg,w1,w2,g1,g2,g3,g4,Nat.add_zero,r1,r2,e1,e2,e3,v1,v2,hc,b1,hn]
   .obtain ⟨q2,u,b1,b2,b3⟩:=bindC (Or.inl vl);have hbd:jv (sub s l) (sub s r)=((sub s r).name,sub s l):=if_pos (Or.inr ⟨vr,hc⟩);rw[hbd]at b1;cases q2
    .rw [b2 rfl];simp only[jg,w1,w2,g1,g2,g3,g4,Nat.add_zero,r1,r2,e1,e2,e3,v1,v2,hc,b1];rfl
    .rw [<-b3 rfl];simp only[jg,w1,w2,g1,g2,g3,g4,Nat.add_zero,r1,r2,e1,e2,e3,v1,v2,hc,b1,hn]
 cases vr:jr (sub s r).name<;>rw[vr]at v2
 rotate_left
 .obtain ⟨q2,u,b1,b2,b3⟩:=bindC (Or.inr vr);have hbd:jv (sub s l) (sub s r)=((sub s r).name,sub s l):=if_pos (Or.inl vl);rw[hbd]at b1;cases q2
  .rw [b2 rfl];simp only[jg,w1,w2,g1,g2,g3,g4,Nat.add_zero,r1,r2,e1,e2,e3,v1,v2,b1];rfl
  .rw [<-b3 rfl];simp only[jg,w1,w2,g1,g2,g3,g4,Nat.add_zero,r1,r2,e1,e2,e3,v1,v2,b1,hn]
 have hst:=Qa (rest:=rest) sl sr hd vl vr;by_cases hnm:(sub s l).name=(sub s r).name;rotate_left
 .rw [if_neg (λh=>hnm h.1)]at hst;have hnd:=decide_eq_false hnm;rw[jV hst hu];simp only[jg,w1,w2,g1,g2,g3,g4,Nat.add_zero,r1,r2,e1,e2,e3,v1,v2,hnd];rfl
 have hnd:=decide_eq_true hnm;by_cases hal:(sub s l).args.length=(sub s r).args.length;rotate_left
 .rw [if_neg (λh=>hal h.2)]at hst;have hal':decide ((((sub s l).args.length:Nat):Int)=(((sub s r).args.length:Nat):Int))=false:=decide_eq_false (by omega);rw[jV hst hu];simp only[jg,w1,w2,g1,g2,g3,g4,Nat.add_zero,r1,r2,e1,e2,e3,v1,v2,hnd,hal'];rfl
 rw[if_pos ⟨hnm,hal⟩]at hst;have hnext:=ih _ _ res (zx hi hst).1 (ye hi hg hst) (zl hst hu);have hnext:=hnext.2.1;have hin:=jtv s W (off+1) hlen (sub s l) (sub s r) hal (jaT xl);rw[d2]at hin;rw[hnext]at hin;have hal':decide ((((sub s l).args.length:Nat):Int)=(((sub s r).args.length:Nat):Int))=true:=decide_eq_true (by omega);simp only[jg,w1,w2,g1,g2,g3,g4,Nat.add_zero,r1,r2,e1,e2,e3,v1,v2,hnd,hal',hn];exact hin
theorem jAS(k:Nat)(ih:∀(s:ju)(es:yH)(res:Option ju),Jt s es->Hgt s 126 es->kH k s es=some res->USS s es (zE res))(s:ju)(l r:T)(rest:yH)(hi:Jt s ((l,r)::rest))(hg:Hgt s 126 ((l,r)::rest))(res:Option ju)(hu:kH (k+1) s ((l,r)::rest)=some res)(W:yH)(hW:W=(l,r)::rest)(hlen:W.length<=1000):jfC (JY s) (W.map ec) [] []=zE res:=by
 have hW0:W.drop 0=(l,r)::rest:=hW;rw[<-jyJ k ih s l r rest hi hg res hu W 0 hW0 hlen];obtain⟨d1,d2,d3⟩:=y8 hW0;obtain⟨r1,r2⟩:=Yx d1;have w1:kE (nA 0)=0:=rfl;have w2:kE (nA W.length)=W.length:=rfl;have f1:jq .gtr false (nA W.length) (vi 0)=some (vb true):=by
  show some (vb (decide ((0:Int)<((W.length:Nat):Int))))=_;rw[decide_eq_true (by omega)]
 have f3:pB W.length (kY (W.map ec) 0) none=some W.length:=by
  rw[show kY (W.map ec) 0=W.length by rw[yk,List.length_map];rfl];exact zd (Nat.le_refl _)
 have g2:ZB W.length (vi 0)=some 0:=zR (i:=0) (by omega);have g3:pB (zS (W.map ec)) (kY (W.map ec) 0) none=some W.length:=by
  rw[zU,f3]
 have g4:pB 0 W.length (some (vi 1))=some 1:=yO (n:=1) (by omega);have g0:(0:Int)<((W.length:Nat):Int):=by omega
 rw[ju3,jra,Nat.sub_zero];simp only[jg,w1,w2,f1,f3,g0,g2,g3,g4,r1,r2]
theorem jyI(k:Nat)(ih:∀(s:ju)(es:yH)(res:Option ju),Jt s es->Hgt s 126 es->kH k s es=some res->USS s es (zE res))(l r:T)(rest:yH)(hi:Jt [] ((l,r)::rest))(hg:Hgt [] 126 ((l,r)::rest))(res:Option ju)(hu:kH (k+1) [] ((l,r)::rest)=some res)(W:yH)(off:Nat)(hW:W.drop off=(l,r)::rest)(hlen:W.length<=1000):jis (nA off) (nA (W.length-off)) (W.map ec) [] [] []=zE res:=by
 obtain⟨d1,d2,d3⟩:=y8 hW;obtain⟨r1,r2⟩:=Yx d1;obtain⟨al,ar,nl,nr⟩:=ZP hi;have hv:=hi.1;have e1:=Ku [] hv l al (by omega);have e2:=Ku [] hv r ar (by omega);have w1:kE (nA off)=off:=rfl;have w2:kE (nA (W.length-off))=W.length-off:=rfl;have g1:jq .gtr false (nA (W.length-off)) (vi 0)=some (vb true):=by
  show some (vb (decide ((0:Int)<((W.length-off:Nat):Int))))=_;rw[decide_eq_true (by omega)]
 have g2:ZB (W.length-off) (vi 0)=some 0:=zR (i:=0) (by omega);have g3:pB (W.length-off) (kY (W.map ec) off) none=some (W.length-off):=by
  rw[show kY (W.map ec) off=W.length-off by rw[yk,List.length_map]];exact zd (Nat.le_refl _)
 have g4:pB 0 (W.length-off) (some (vi 1))=some 1:=yO (n:=1) (by omega);have hn:j6 (W.length-off) 1=W.length-(off+1):=by unfold j6;omega
 rw[jq9];cases sl:jH (sub [] l)<;>rw[sl]at e1
 .have e1:G 90 [.agg [.sl 3 []],tm l]=some (.tup [.agg [sv [],.sl 2 []],vb false],[]):=e1;have hr:res=none:=jV (by unfold yl;rw[if_pos (Or.inl sl)]) hu;subst hr;obtain⟨q,e2⟩:∃q:T×Bool,G 90 [.agg [.sl 3 []],tm r]=some (.tup [tm q.1,vb q.2],[]):=by
   cases h:jH (sub [] r)<;>rw[h]at e2
   .exact ⟨(.mk [] [],false),e2⟩
   .exact ⟨(sub [] r,true),e2⟩
  simp only[jg,w1,w2,g1,g2,g3,g4,Nat.add_zero,r1,r2,e1,e2];rfl
 have e1:G 90 [.agg [.sl 3 []],tm l]=some (.tup [tm (sub [] l),vb true],[]):=e1;cases sr:jH (sub [] r)<;>rw[sr]at e2
 .have e2:G 90 [.agg [.sl 3 []],tm r]=some (.tup [.agg [sv [],.sl 2 []],vb false],[]):=e2;have hr:res=none:=jV (by unfold yl;rw[if_pos (Or.inr sr)]) hu;subst hr;simp only[jg,w1,w2,g1,g2,g3,g4,Nat.add_zero,r1,r2,e1,e2];rfl
 have e2:G 90 [.agg [.sl 3 []],tm r]=some (.tup [tm (sub [] r),vb true],[]):=e2;have xl:K0 (sub [] l):=K0.sub hv al;have xr:K0 (sub [] r):=K0.sub hv ar;have ml:=kT sl;have mr:=kT sr;have tl:=xl.tz (by omega);have tr:=xr.tz (by omega);have e3:=jf7 (sub [] l) tl.wf (sub [] r) tr.wf;have ll:=(jI hv).1;cases hd:dq (sub [] l) (sub [] r)<;>rw[hd]at e3
 rotate_left
 .have hst:=Qb (rest:=rest) sl sr hd;have hnext:=ih _ _ res (zx hi hst).1 (ye hi hg hst) (zl hst hu);have hnext:=(hnext.2.2 rfl).1 W (off+1) d2 (by omega) hlen;simp only[jg,w1,w2,g1,g2,g3,g4,Nat.add_zero,r1,r2,e1,e2,e3,hn];exact hnext
 have v1:=yc (sub [] l).name ((kQ _).1 tl.wf).1;have v2:=yc (sub [] r).name ((kQ _).1 tr.wf).1;have bindC:jr (sub [] l).name=true\/jr (sub [] r).name=true-> ∃q2:Bool,∃u:ju,G 92 [.agg [.sl 3 []],sv (jv (sub [] l) (sub [] r)).1,tm (jv (sub [] l) (sub [] r)).2]=some (.tup [sb u,vb q2],[])/\(q2=false->zE res=zE none)/\(q2=true->jah (nA (off+1)) (nA (W.length-(off+1))) (JY u) (W.map ec) [] []=zE res):=by
  intro hvar;have hst:=Y9 (rest:=rest) sl sr hd hvar;obtain⟨bv,hor⟩:=jdF hvar;have bz:Tz (jv (sub [] l) (sub [] r)).2:=hor.elim (λh=>by rw[h.2];exact tl) λh=>by rw[h.2];exact tr
  have bk:(jv (sub [] l) (sub [] r)).1∈ke (jv (sub [] l) (sub [] r)).2\/(jv (sub [] l) (sub [] r)).2.name≠(jv (sub [] l) (sub [] r)).1:=by
   by_cases hnm:(jv (sub [] l) (sub [] r)).2.name=(jv (sub [] l) (sub [] r)).1
   .left;rw[vsv (by rw[hnm];exact bv),hnm];simp
   .exact Or.inr hnm
  obtain⟨z,eb⟩:=jf9 [] hv _ _ bv bz bk;rw[<-Bool.and_assoc]at eb;cases hc:(!decide ((jv (sub [] l) (sub [] r)).1∈ke (jv (sub [] l) (sub [] r)).2) && jB [jv (sub [] l) (sub [] r)]) && jB (kC [] [jv (sub [] l) (sub [] r)])
  .rw [hc,if_neg Bool.false_ne_true]at hst;have eb:=eb.trans (by rw[show((jv (sub [] l) (sub [] r)).1,(jv (sub [] l) (sub [] r)).2)=jv (sub [] l) (sub [] r) from rfl,hc,if_neg Bool.false_ne_true]);exact⟨false,z,eb,λ_=>by rw[jV hst hu],λh=>by cases h⟩
  .rw [hc,if_pos rfl]at hst;have eb:=eb.trans (by rw[show((jv (sub [] l) (sub [] r)).1,(jv (sub [] l) (sub [] r)).2)=jv (sub [] l) (sub [] r) from rfl,hc,if_pos rfl]);refine⟨true,_,eb,(λh=>by cases h),λ_=>?_⟩;have hnext:=ih _ _ res (zx hi hst).1 (ye hi hg hst) (zl hst hu);exact hnext.1 W (off+1) d2 (by omega) hlen
 cases vl:jr (sub [] l).name<;>rw[vl]at v1
 rotate_left
 .cases vr:jr (sub [] r).name<;>rw[vr]at v2
  .obtain ⟨q2,u,b1,b2,b3⟩:=bindC (Or.inl vl);have hbd:jv (sub [] l) (sub [] r)=((sub [] l).name,sub [] r):=if_neg (by rw[vl,vr];simp);rw[hbd]at b1;cases q2
   .rw [b2 rfl];simp only[jg,w1,w2,g1,g2,g3,g4,Nat.add_zero,r1,r2,e1,e2,e3,v1,v2,b1];rfl
   .rw [<-b3 rfl];simp only[jg,w1,w2,g1,g2,g3,g4,Nat.add_zero,r1,r2,e1,e2,e3,v1,v2,b1,hn]
  .cases hc:zz (sub [] l).name (sub [] r).name
   .obtain ⟨q2,u,b1,b2,b3⟩:=bindC (Or.inl vl);have hbd:jv (sub [] l) (sub [] r)=((sub [] l).name,sub [] r):=if_neg (by rw[vl,vr,hc];simp);rw[hbd]at b1;cases q2
    .rw [b2 rfl];simp only[jg,w1,w2,g1,g2,g3,g4,Nat.add_zero,r1,r2,e1,e2,e3,v1,v2,hc,b1];rfl
    .rw [<-b3 rfl];simp only[jg,w1,w2,g1,g2,g3,g4,Nat.add_zero,r1,r2,e1,e2,e3,v1,v2,hc,b1,hn]
   .obtain ⟨q2,u,b1,b2,b3⟩:=bindC (Or.inl vl);have hbd:jv (sub [] l) (sub [] r)=((sub [] r).name,sub [] l):=if_pos (Or.inr ⟨vr,hc⟩);rw[hbd]at b1;cases q2
    .rw [b2 rfl];simp only[jg,w1,w2,g1,g2,g3,g4,Nat.add_zero,r1,r2,e1,e2,e3,v1,v2,hc,b1];rfl
    .rw [<-b3 rfl];simp only[jg,w1,w2,g1,g2,g3,g4,Nat.add_zero,r1,r2,e1,e2,e3,v1,v2,hc,b1,hn]
 cases vr:jr (sub [] r).name<;>rw[vr]at v2
 rotate_left
 .obtain ⟨q2,u,b1,b2,b3⟩:=bindC (Or.inr vr);have hbd:jv (sub [] l) (sub [] r)=((sub [] r).name,sub [] l):=if_pos (Or.inl vl);rw[hbd]at b1;cases q2
  .rw [b2 rfl];simp only[jg,w1,w2,g1,g2,g3,g4,Nat.add_zero,r1,r2,e1,e2,e3,v1,v2,b1];rfl
  .rw [<-b3 rfl];simp only[jg,w1,w2,g1,g2,g3,g4,Nat.add_zero,r1,r2,e1,e2,e3,v1,v2,b1,hn]
 have hst:=Qa (rest:=rest) sl sr hd vl vr;by_cases hnm:(sub [] l).name=(sub [] r).name;rotate_left
 .rw [if_neg (λh=>hnm h.1)]at hst;have hnd:=decide_eq_false hnm;rw[jV hst hu];simp only[jg,w1,w2,g1,g2,g3,g4,Nat.add_zero,r1,r2,e1,e2,e3,v1,v2,hnd];rfl
 have hnd:=decide_eq_true hnm;by_cases hal:(sub [] l).args.length=(sub [] r).args.length;rotate_left
 .rw [if_neg (λh=>hal h.2)]at hst;have hal':decide ((((sub [] l).args.length:Nat):Int)=(((sub [] r).args.length:Nat):Int))=false:=decide_eq_false (by omega);rw[jV hst hu];simp only[jg,w1,w2,g1,g2,g3,g4,Nat.add_zero,r1,r2,e1,e2,e3,v1,v2,hnd,hal'];rfl
 rw[if_pos ⟨hnm,hal⟩]at hst;have hnext:=ih _ _ res (zx hi hst).1 (ye hi hg hst) (zl hst hu);have hnext:=(hnext.2.2 rfl).2;have hin:=jtu W (off+1) hlen (sub [] l) (sub [] r) hal (jaT xl);rw[d2]at hin;rw[hnext]at hin;have hal':decide ((((sub [] l).args.length:Nat):Int)=(((sub [] r).args.length:Nat):Int))=true:=decide_eq_true (by omega);simp only[jg,w1,w2,g1,g2,g3,g4,Nat.add_zero,r1,r2,e1,e2,e3,v1,v2,hnd,hal',hn];exact hin
theorem jAR(k:Nat)(ih:∀(s:ju)(es:yH)(res:Option ju),Jt s es->Hgt s 126 es->kH k s es=some res->USS s es (zE res))(l r:T)(rest:yH)(hi:Jt [] ((l,r)::rest))(hg:Hgt [] 126 ((l,r)::rest))(res:Option ju)(hu:kH (k+1) [] ((l,r)::rest)=some res)(W:yH)(hW:W=(l,r)::rest)(hlen:W.length<=1000):jdA (W.map ec) [] [] []=zE res:=by
 have hW0:W.drop 0=(l,r)::rest:=hW;rw[<-jyI k ih l r rest hi hg res hu W 0 hW0 hlen];obtain⟨d1,d2,d3⟩:=y8 hW0;obtain⟨r1,r2⟩:=Yx d1;have w1:kE (nA 0)=0:=rfl;have w2:kE (nA W.length)=W.length:=rfl;have f1:jq .gtr false (nA W.length) (vi 0)=some (vb true):=by
  show some (vb (decide ((0:Int)<((W.length:Nat):Int))))=_;rw[decide_eq_true (by omega)]
 have f3:pB W.length (kY (W.map ec) 0) none=some W.length:=by
  rw[show kY (W.map ec) 0=W.length by rw[yk,List.length_map];rfl];exact zd (Nat.le_refl _)
 have g2:ZB W.length (vi 0)=some 0:=zR (i:=0) (by omega);have g3:pB (zS (W.map ec)) (kY (W.map ec) 0) none=some W.length:=by
  rw[zU,f3]
 have g4:pB 0 W.length (some (vi 1))=some 1:=yO (n:=1) (by omega);have g0:(0:Int)<((W.length:Nat):Int):=by omega
 rw[jrb,jq9,Nat.sub_zero];simp only[jg,w1,w2,f1,f3,g0,g2,g3,g4,r1,r2]
theorem jsq(s:ju):USS s [] (zE (some s)):=by
 refine⟨λW off hW h1 h2=>?_,?_,λhs=>?_⟩
 .have h3:=congrArg List.length hW;rw[List.length_drop,List.length_nil]at h3;have w2:kE (nA (W.length-off))=W.length-off:=rfl;have g1:jq .gtr false (nA (W.length-off)) (vi 0)=some (vb false):=by
   show some (vb (decide ((0:Int)<((W.length-off:Nat):Int))))=_;rw[decide_eq_false (by omega)]
  rw[jra];simp only[jg,w2,g1];rfl
 .rw [ju3];have g1:jq .gtr false (qS (List.map ec [])) (vi 0)=some (vb false):=rfl;simp only[jg];rfl
 .subst hs;refine⟨λW off hW h1 h2=>?_,?_⟩
  .have h3:=congrArg List.length hW;rw[List.length_drop,List.length_nil]at h3;have w2:kE (nA (W.length-off))=W.length-off:=rfl;have g1:jq .gtr false (nA (W.length-off)) (vi 0)=some (vb false):=by
    show some (vb (decide ((0:Int)<((W.length-off:Nat):Int))))=_;rw[decide_eq_false (by omega)]
   rw[jq9];simp only[jg,w2,g1];rfl
  .rw [jrb];have g1:jq .gtr false (qS (List.map ec [])) (vi 0)=some (vb false):=rfl;simp only[jg];rfl
theorem jwX:∀(k:Nat)(s:ju)(es:yH)(res:Option ju),Jt s es->Hgt s 126 es->kH k s es=some res->USS s es (zE res):=by
 intro k;induction k with
 |zero=>
  intro s es res hi hg hu;cases es with
  |nil=>simp only[kH,Option.some.injEq]at hu;rw[<-hu];exact jsq s
  |cons p es=>simp[kH]at hu
 |succ k ih=>
  intro s es res hi hg hu;cases es with
  |nil=>simp only[kH,Option.some.injEq]at hu;rw[<-hu];exact jsq s
  |cons p rest=>
   obtain⟨l,r⟩:=p;have hl:=hg.len;refine⟨λW off hW _ hlen=>jyJ k ih s l r rest hi hg res hu W off hW hlen,jAS k ih s l r rest hi hg res hu _ rfl (by omega),λhs=>?_⟩;subst hs;exact⟨λW off hW _ hlen=>jyI k ih l r rest hi hg res hu W off hW hlen,jAR k ih l r rest hi hg res hu _ rfl (by omega)⟩
theorem jyH(W:yH):jpw (W.map ec) [] [] []=jdA (W.map ec) [] [] []:=by
 rw[jx6,jrb]
theorem jlu(a b:T)(ha:Exx a)(hb:Exx b):G 49 [tm a,tm b]=zE (jca a b):=by
 obtain⟨k,hk⟩:=YH ha hb;have h:=((jwX k [] [(a,b)] _ (jnG ha hb) (jx1 a b) hk).2.2 rfl).2;rw[<-jyH]at h;rw[g49];simp only[jg];exact h
open Go Go.RowKit Go.ChangeShapes Go.Deep Go.Proofs.YtkkcepmpbackoaaGreatDoor.Abs
section
variable{P:Program}{t:Nat}{H:Type}{enc:TypeId×Value->H}{w:World}{base:Nat}{spare:Nat->Bool}{held:Bool}{fuel:Nat}{cs:Xh}{x:DataW H×List MemPlace}
end
abbrev clc(c:kg):Xd:=[.sl 3 (c.map jD)]
structure Stp where
 rule:Int
 par:Xi
 whr:Xi
 cls:kg
abbrev stc(s:Stp):Xd:=[vi s.rule,ints s.par,ints s.whr,.sl 3 (s.cls.map jD)]
abbrev stm(s:Stp):A:= .agg [vi s.rule,ints s.par,ints s.whr,.sl 3 (s.cls.map jD)]
structure Prf where
 ax:List kg
 st:List Stp
abbrev cls(l:List kg):A:= .sl 1 (l.map clc)
abbrev jun(l:List Stp):A:= .sl 4 (l.map stc)
abbrev prc(p:Prf):Xd:=[cls p.ax,jun p.st]
abbrev prm(p:Prf):A:= .agg [cls p.ax,jun p.st]
structure Sch where
 prf:Prf
 act:Xi
 pas:Xi
 lost:Bool
abbrev scc(s:Sch):Xd:=[cls s.prf.ax,jun s.prf.st,ints s.act,ints s.pas,vb s.lost]
abbrev scm(s:Sch):A:= .agg [cls s.prf.ax,jun s.prf.st,ints s.act,ints s.pas,vb s.lost]
def iwf(l:Xi):Prop:=(∀x∈l,I64 x)/\l.length<=9223372036854775807
def cwf(c:kg):Prop:=(∀l∈c,KZ l.2)/\c.length<=9223372036854775807
def swf(s:Stp):Prop:=I64 s.rule/\iwf s.par/\iwf s.whr/\cwf s.cls
def pwf(p:Prf):Prop:=((∀c∈p.ax,cwf c)/\p.ax.length<=9223372036854775807)/\((∀s∈p.st,swf s)/\p.st.length<=9223372036854775807)
def jBe(s:Sch):Prop:=pwf s.prf/\iwf s.act/\iwf s.pas
theorem jwH:Rdr Tryz.prog 73 jD (λl:Lt=>KZ l.2):=λ_ _ _ _ _ _ fuel cs x h=>by
 obtain⟨a,b,h1,h2,h3,h4⟩:=jl3 (k0:=1) (k1:=2) Tryz.underlying73 rfl rfl (by kernel_rfl) (by kernel_rfl) (by kernel_rfl)
  (λ_ _ _ _ h=>jt3 _ _ _ _ _ _ _ _ _ h) (λ_ _ _ _ h=>jt5 _ _ _ _ _ _ _ _ _ h) h
 rw[kR]at h3;exact⟨(a,b),h2,h3,h4⟩
theorem jt4:Rdr Tryz.prog 22 (λc:kg=>[A.sl 3 (c.map jD)]) cwf:=
 Rdr.slice Tryz.underlying22 (by kernel_rfl) (by decide) (λ_=>rfl) jwH
theorem joK:Rdr Tryz.prog 24 clc cwf:=λ_ _ _ _ _ _ fuel cs x h=>by
 obtain⟨a,h1,h2,h3⟩:=jl2 (k0:=1) Tryz.underlying24 rfl (by kernel_rfl) (by kernel_rfl)
  (λ_ _ _ _ h=>jt4 _ _ _ _ _ _ _ _ _ h) h
 exact⟨a,h1,h2,h3⟩
theorem jbU(l:Lt):kr 3 (.elt (jD l) 0)=some (ltm l):=rfl
def lsz:kg->Nat
 | []=>0
 |l::c=>tsz l.2+lsz c
def csz(c:kg):Nat:=c.length+lsz c
def js1:List kg->Nat
 | []=>0
 |c::l=>csz c+js1 l
def ssz(s:Stp):Nat:=s.par.length+s.whr.length+csz s.cls
def juo:List Stp->Nat
 | []=>0
 |s::l=>ssz s+juo l
def psz(p:Prf):Nat:=(p.ax.length+js1 p.ax)+(p.st.length+juo p.st)
def jBd(s:Sch):Nat:=psz s.prf+s.act.length+s.pas.length
theorem jnh:∀{c:kg}{l:Lt},l∈c->tsz l.2<=lsz c
 |x::c,l,h=>by
  simp only[lsz];rcases List.mem_cons.1 h with rfl|h
  .omega
  .have:=jnh h;omega
theorem jiM:∀{l:List kg}{c:kg},c∈l->csz c<=js1 l
 |x::c,l,h=>by
  simp only[js1];rcases List.mem_cons.1 h with rfl|h
  .omega
  .have:=jiM h;omega
theorem jbk:∀{l:List Stp}{s:Stp},s∈l->ssz s<=juo l
 |x::c,l,h=>by
  simp only[juo];rcases List.mem_cons.1 h with rfl|h
  .omega
  .have:=jbk h;omega
theorem jwS(l:Lt)(hw:KZ l.2)(left:Int)(h0:0<=left)(h1:left<=1048576):G 44 [ltm l,vi left]=some (vi (kL left ((tsz l.2:Nat):Int)),[]):=by
 have e1:=jur l.2 hw left h0 h1;rw[g44];by_cases h:kL left ((tsz l.2:Nat):Int)<0
 .have:kL left ((tsz l.2:Nat):Int) = -1:=by have:=jeh left (tsz l.2:Nat);omega
  simp only[jg,e1,this]
 .simp only[jg,e1,h]
theorem jwc(l:Lt)(hw:KZ l.2):G 59 [ltm l,ltm l]=some (vb true,[]):=by
 have e1:=jtp l.2 hw;rw[g59];cases l.1<;>simp only[jg,e1]
theorem juq(l:List Lt)(hl:l.length<=9223372036854775807)(ih:∀t∈l,∀left:Int,0<=left->left<=1048576->G 44 [ltm t,vi left]=some (vi (kL left ((tsz t.2:Nat):Int)),[]))
  (left:Int) (h0:0<=left) (h1:left<=1048576):G 24 [.sl 3 (l.map jD),vi left]=some (vi (kL left ((l.length+lsz l:Nat):Int)),[]):=by
 have loop:∀(a:Int),0<=a->a<=1048576->jir (.sl 3 (l.map jD)) (vi a) (vi 0)=some (vi (kL a (lsz l)),[]):=by
  have key:=(upto (P:=λi=>∀a:Int,0<=a->a<=1048576->jir (.sl 3 (l.map jD)) (vi a) (vi i)=some (vi (kL a (lsz (l.drop i))),[])) (n:=l.length) ?_ ?_ 0 (Nat.zero_le _))
  .simp only[List.drop_zero,Int.natCast_zero]at key;exact key
  .intro b hb hb';rw[juV,List.drop_length];simp only[jg,lsz];rw[jei hb]
  .intro i hi ih' b hb hb';have e1:=ih l[i] (List.getElem_mem _) b hb hb';rw[juV,js hi];simp only[jg,hi,Int.ofNat_lt,jb hi,jbU,e1,jy hi hl,lsz];by_cases hc:b<(tsz l[i].2:Nat)
   .rw [qJ hc,qJ (by omega)];rfl
   .have hp:=jbK (Int.not_lt.1 hc);have ih':=ih' (kL b (tsz l[i].2:Nat)) (by omega) (by omega);have hn:¬kL b ((tsz l[i].2:Nat):Int)<0:=by omega
    simp only[jg,hn,ih'];rw[jga (Int.not_lt.1 hc),<-Int.natCast_add]
 have hk:=jk6 h0 (Int.le_trans h1 (by decide)) hl;rw[g24];simp only[jg,hk];by_cases hc:left-l.length<0
 .simp only[jg,hc];rw[qJ (by omega)]
 .have hl:=loop (left-l.length) (by omega) (by omega);simp only[jg,hc,hl];rw[YX,<-Int.natCast_add]
theorem jto(l:List Lt)(hl:l.length<=9223372036854775807)(ih:∀t∈l,G 59 [ltm t,ltm t]=some (vb true,[])):G 30 [.sl 3 (l.map jD),.sl 3 (l.map jD)]=some (vb true,[]):=by
 have key:=(upto (P:=λi=>jmn (.sl 3 (l.map jD)) (.sl 3 (l.map jD)) (vi i)=some (vb true,[])) (n:=l.length) ?_ ?_ 0 (Nat.zero_le _))
 .rw [g30];simp only[Int.natCast_zero]at key;simp only[jg,key]
 .rw [juW];simp only[jg]
 .intro i hi ih';have h5:=jy hi hl;have e1:=ih l[i] (List.getElem_mem _);rw[juW];simp only[jg,hi,Int.ofNat_lt,jb hi,jbU,e1,h5,ih']
theorem jwR(c:kg)(hw:cwf c)(left:Int)(h0:0<=left)(h1:left<=1048576):G 6 [cm c,vi left]=some (vi (kL left ((csz c:Nat):Int)),[]):=by
 have e1:G 24 [.sl 3 (c.map jD),vi left]=some (vi (kL left ((csz c:Nat):Int)),[]):=juq c hw.2 (λl hl=>jwS l (hw.1 l hl)) left h0 h1;rw[g6];by_cases h:kL left ((csz c:Nat):Int)<0
 .have:kL left ((csz c:Nat):Int) = -1:=by have:=jeh left (csz c:Nat);omega
  simp only[jg,e1,this]
 .simp only[jg,e1,h]
theorem jqf(c:kg)(hw:cwf c):G 10 [cm c,cm c]=some (vb true,[]):=by
 have e1:=jto c hw.2 λl hl=>jwc l (hw.1 l hl);rw[g10];simp only[jg,e1]
theorem jpZ(c:kg)(hl:c.length<=1000):jkO (.sl 3 (c.map jD))=some (.top,[.sl 3 (c.map jD)]):=by
 have e1:jrR (.sl 3 (c.map jD))=some (c.map jD):=rfl;have f:jO c.length 48=true:=jaX (by omega);rw[jvO];cases c with
 |nil=>
  have f0:jO 0 48=true:=jaX (by omega);have hz:nz (zS [])=true:=rfl;have e1:jrR (.sl 3 [])=some []:=rfl;simp only[jg,e1,hz,f0,List.map_nil,jpR]
 |cons l r=>
  have hz:nz (zS (List.map jD (l::r)))=false:=rfl;generalize l::r=x at *;simp only[jg,e1,hz,f]
theorem jnX(c:kg)(hl:c.length<=1000)(i:Nat)(hi:i<c.length):jkN (vi (i:Nat)) (vi ((i+1:Nat):Int)) (c.map jD)=some (.top,[.sl 3 ((c.eraseIdx i).map jD)]):=by
 have e1:zS (c.map jD)=c.length:=zU jD c;have e2:kY (c.map jD) 0=c.length:=by rw[yk,List.length_map];rfl
 have hne:¬((i:Nat):Int)=((i+1:Nat):Int):=by omega
 have k1:pB 0 c.length (some (vi (c.length:Nat)))=some c.length:=yO (Nat.le_refl _);have k2:pB 0 c.length (some (vi ((i+1:Nat):Int)))=some (i+1):=yO (by omega);have k3:pB 0 (i+1) (some (vi (i:Nat)))=some i:=yO (by omega);have k4:pB c.length c.length (some (vi (i:Nat)))=some i:=yO (by omega);have k5:pB c.length c.length none=some c.length:=zd (Nat.le_refl _);have w1:yi (c.map jD) (0+(i+1)) (j6 c.length (i+1))=(c.drop (i+1)).map jD:=by
  rw[jdg,yP,Nat.zero_add,<-List.map_drop,List.take_of_length_le (by rw[List.length_map,List.length_drop];omega)]
 have w2:zS ((c.drop (i+1)).map jD)=c.length-(i+1):=by rw[zU,List.length_drop]
 have rm:jjR 0 (j6 i 0) ((c.drop (i+1)).map jD) (c.map jD)=true:=by
  rw[jrO,yP];exact decide_eq_true (by rw[List.length_map,List.length_map,List.length_drop];omega)
 generalize hov:yd (c.map jD) (0+j6 i 0) ((c.drop (i+1)).map jD)=O at *;have hO:O=(c.eraseIdx i).map jD++(c.map jD).drop (c.length-1):=by
  rw[<-hov,ja4,yP,Nat.sub_zero,Nat.zero_add,List.eraseIdx_eq_take_drop_succ,List.map_append,List.map_take,List.length_map,List.length_drop];congr 2;omega
 have hOl:O.length=c.length:=by
  rw[hO,List.length_append,List.length_map,List.length_eraseIdx_of_lt hi,List.length_drop,List.length_map];omega
 have k6:pB (j6 i 0+(c.length-(i+1))) (kY O 0) (some (vi (c.length:Nat)))=some c.length:=by
  rw[yk,hOl];exact yO (by omega)
 have k7:pB 0 c.length (some (nA (j6 i 0+(c.length-(i+1)))))=some (c.length-1):=by
  rw[yP,show i-0+(c.length-(i+1))=c.length-1 by omega];exact yO (by omega)
 have fin:List.take (j6 i 0+(c.length-(i+1))) (yd O (0+(c.length-1)) (JM (j6 c.length (c.length-1)) [vb false,sv [],.sl 2 []]))=(c.eraseIdx i).map jD:=by
  have hlen:((c.eraseIdx i).map jD).length=c.length-1:=by rw[List.length_map,List.length_eraseIdx_of_lt hi]
  rw[yP,show i-0+(c.length-(i+1))=c.length-1 by omega,ja4,Nat.zero_add,List.append_assoc,List.take_append_of_le_length (by rw[List.length_take,hOl];omega),List.take_take,Nat.min_self,hO,List.take_append_of_le_length (by omega),List.take_of_length_le (by omega)]
 rw[jvN];simp only[cev];rw[e1,e2,jh2,List.length_map,k1,Option.bind_some,k2,Option.bind_some,k3,Option.bind_some,jjM,decide_eq_false hne,Option.bind_some,jaV,Option.bind_some,YP,k4,Option.bind_some,k5,Option.bind_some,k2,Option.bind_some,w1,rm,jiI,hov,w2,k6,Option.bind_some,k7,Option.bind_some,fin]
theorem jmj(c:kg)(hl:c.length<=1000)(i:Nat)(hi:i<c.length):G 58 [cm c,vi (i:Nat)]=some (.sl 3 ((c.eraseIdx i).map jD),[]):=by
 have e1:=jpZ c hl;have e2:=jnX c hl i hi;have r1:∀x:kg,hR 3 (A.top,[.sl 3 (x.map jD)]) 0=some (x.map jD):=λx=>rfl;have h5:=jy hi (by show c.length<=9223372036854775807;omega);rw[g58];simp only[jg,e1,r1,h5,e2]
theorem jkH(c:kg)(hl:c.length<=1000)(i:Nat)(hi:i<c.length):jpo (.sl 3 (c.map jD)) (vi (i:Nat))=some (.top,[.sl 3 ((c.eraseIdx i).map jD)]):=by
 have s1:yt 3 (.sl 3 (c.map jD)) none (some (vi (i:Nat)))=some (.sl 3 ((c.map jD).take i)):=Yr (by rw[List.length_map];omega)
 have s2:yt 3 (.sl 3 (c.map jD)) (some (vi ((i+1:Nat):Int))) none=some (.sl 3 ((c.map jD).drop (i+1))):=Yq (by rw[List.length_map];omega)
 have hck:ck ((i:Int)+1)=some (vi ((i+1:Nat):Int)):=jZ (by omega) (by omega);have f1:jO ((c.map jD).take i).length 48=true:=jaX (by rw[List.length_take,List.length_map];omega);have f2:jO (((c.map jD).take i).length+((c.map jD).drop (i+1)).length) 48=true:=jaX (by rw[List.length_take,List.length_drop,List.length_map];omega);have fin:j4 ((c.map jD).take i) ((c.map jD).drop (i+1))=(c.eraseIdx i).map jD:=by
  rw[List.eraseIdx_eq_take_drop_succ,List.map_append,List.map_take,List.map_drop];rfl
 rw[jxA];simp only[jg,s1,s2,hck,f1,f2,fin]
def LN(l:kg):Prop:=l.length<=40/\ ∀x∈l,Bx x.2/\nodes x.2<=100
theorem LN.app{s:ju}(hs:jB s=true){l:kg}(h:LN l):∀x∈l.map (λx=>(x.1,Go.Proofs.YtkkcepmpbackoaaGreatDoor.sub s x.2)),Bx x.2/\Tz x.2:=λx hx=>by
 obtain⟨y,hy,rfl⟩:=List.mem_map.1 hx;have hb:=(h.2 y hy).1;exact⟨hb.sub hs,K0.sub_tz hs hb.ax (by have:=(h.2 y hy).2;omega)⟩
theorem jfG{s:ju}{l c:kg}(h:KM s l=some c):CN c/\Asc cmpL c:=⟨(qp (jan h).1).1,(jan h).2⟩
theorem jpM(s:ju)(hs:jB s=true)(l:kg)(h:LN l):G 93 [sb s,.sl 3 (l.map jD)]=jbO (KM s l):=by
 have hl:=h.1;have happ:=h.app hs;have e1:=jbJ (l.map λx=>(x.1,sub s x.2)) (by rw[List.length_map];omega) λx hx=>(happ x hx).2;have e2:=YW (zi cmpL (l.map λx=>(x.1,sub s x.2))) (by have:=jbL cmpL (l.map λx=>(x.1,sub s x.2));rw[List.length_map]at this;omega) λx hx=>(happ x (jbM.1 hx)).2;generalize hd:l.map (λx=>(x.1,sub s x.2))=d at *;have hdl:d.length=l.length:=by rw[<-hd,List.length_map]
 have ld:∀l:Lt,kU (.elt (jD l) 0)=some (vb l.1):=λl=>rfl;have ad:∀(l:Lt)(n:Nat),Jk (.elt (jD l) 0) n=some (.elt (jD l) n):=λl n=>by rw[yN,Nat.zero_add]
 have ld2:∀l:Lt,kr 2 (.elt (jD l) 1)=some (tm l.2):=λl=>rfl;have key:=upto (P:=λi=>jmC (.sl 3 (l.map jD)) (vi (i:Nat)) (JY s) ((d.take i).map jD) []=jbO (if((l.drop i).all λx=>jH (sub s x.2)) && zN (zi cmpL d)then some (zi cmpL d)else none)) (n:=l.length) ?_ ?_ 0 (Nat.zero_le _)
 .simp only[Int.natCast_zero,List.take_zero,List.map_nil,List.drop_zero]at key;unfold KM;rw[hd,<-key,g93];simp only[jg]
 .have hlt:¬((l.length:Nat):Int)<((l.length:Nat):Int):=by omega
  rw[jvf,List.take_of_length_le (by omega),List.drop_length,List.all_nil,Bool.true_and];cases hv:zN (zi cmpL d)<;>rw[hv]at e2
  .rw [if_neg Bool.false_ne_true];simp only[jg,e1,e2];rfl
  .rw [if_pos rfl];simp only[jg,e1,e2];rfl
 .intro i hi ih;have hi2:i<d.length:=by omega
  have hlt:(i:Int)<((l.length:Nat):Int):=by omega
  have h5:=jy hi (by show l.length<=9223372036854775807;omega)
  have hb:=h.2 _ (List.getElem_mem hi);have tz:=hb.1.tz (by omega);have tz2:=K0.sub_tz hs hb.1.ax (by omega);have e3:=QN s (zB hs).sz l[i].2 tz;have e4:=jf5 (sub s l[i].2) tz2.wf tz2;rw[(hb.1.sub hs).atom]at e4;have hdi:d[i]=(l[i].1,sub s l[i].2):=by simp only[<-hd,List.getElem_map]
  have ta:=Kl (f:=jD) hi2;have tl:=take_len (f:=jD) (Nat.le_of_lt hi2);have hf:jO (i+1) 48=true:=jaX (by omega);rw[hdi]at ta;rw[jvf,js hi,List.all_cons];cases hsm:jH (sub s l[i].2)<;>rw[hsm]at e4
  .rw [Bool.false_and,Bool.false_and,if_neg Bool.false_ne_true];simp only[jg,hlt,jb hi,ad,ld2,e3,e4];rfl
  .rw [Bool.true_and];generalize (d.take i).map jD=R at *;generalize sub s l[i].2=u at *;rw[<-ih];simp only[jg,hlt,jb hi,ad,ld,ld2,e3,e4,tl,hf,ta,h5]
theorem jhI(s:ju)(hs:jB s=true)(l:kg)(h:LN l):G 50 [sb s,.sl 3 (l.map jD)]=jbO (jfx s l):=by
 have e1:=jpM s hs l h;unfold jfx;rw[g50];cases ha:KM s l with
 |none=>
  rw[ha]at e1;have e1:G 93 [sb s,.sl 3 (l.map jD)]=some (.tup [cz,vb false],[]):=e1;simp only[jg,e1];rfl
 |some c=>
  rw[ha]at e1;have e1:G 93 [sb s,.sl 3 (l.map jD)]=some (.tup [cm c,vb true],[]):=e1;obtain⟨hc,hasc⟩:=jfG ha;have e2:=jjs c hc hasc;have e3:=KS (normC c) hc.normC;rw[Option.bind_some];unfold zD;cases hv:zN (normC c)<;>rw[hv]at e2
  .rw [Bool.false_and,if_neg Bool.false_ne_true];simp only[jg,e1,e2];rfl
  .rw [Bool.true_and];cases hn:qY (normC c)<;>rw[hn]at e3
   .rw [if_neg Bool.false_ne_true];simp only[jg,e1,e2,e3];rfl
   .rw [if_pos rfl];simp only[jg,e1,e2,e3];rfl
theorem jon(r:Option kg):∃(c:kg)(b:Bool),jbO r=some (.tup [cm c,vb b],[]):=by
 cases r with
 |none=>exact⟨[],false,rfl⟩
 |some c=>exact⟨c,true,rfl⟩
theorem joo(r:Option ju):∃(u:ju)(b:Bool),zE r=some (.tup [sb u,vb b],[])/\(b=true->r=some u)/\(b=false->r=none):=by
 cases r with
 |none=>exact⟨[],false,rfl,(λh=>by cases h),λ_=>rfl⟩
 |some u=>exact⟨u,true,rfl,(λ_=>rfl),λh=>by cases h⟩
def jBk(f g:FuncId)(args:Xd):Prop:=∃r:Option kg,G f args=jbO r/\G g args=jbO r/\ ∀x,r=some x->zD x=true
def jqp(c:kg)(i:Int):Bool:=ZW 0 (((c.length:Nat):Int)-1) i
theorem jn3{c:kg}{i:Int}(h:jqp c i=true):∃k:Nat,i=(k:Int)/\k<c.length:=by
 unfold jqp ZW at h;rw[Bool.and_eq_true,decide_eq_true_eq,decide_eq_true_eq]at h;exact⟨i.toNat,by omega,by omega⟩
theorem jfr(c:kg)(hl:c.length<=1000)(i:Int):G 55 [cm c,vi i]=some (vb (jqp c i),[]):=by
 have c1:ck (((c.length:Nat):Int)-1)=some (vi (((c.length:Nat):Int)-1)):=jZ (by omega) (by omega);have e:=Zk i 0 (((c.length:Nat):Int)-1);rw[g55];simp only[jg,c1,e];rfl
theorem LN.erase{c:kg}(h:CN c)(i:Nat):LN (c.eraseIdx i):=⟨by have:=List.length_eraseIdx_le c i;have:=h.1;omega,λx hx=>by
 have:=h.2 x (List.mem_of_mem_eraseIdx hx);exact⟨this.1,by omega⟩⟩
theorem LN.append{a b:kg}(ha:CN a)(hb:CN b)(i k:Nat):LN (a.eraseIdx i++b.eraseIdx k):=⟨by
 have:=List.length_eraseIdx_le a i;have:=List.length_eraseIdx_le b k;have:=ha.1;have:=hb.1;rw[List.length_append];omega,λx hx=>by
 rcases List.mem_append.1 hx with hx|hx
 .exact (LN.erase ha i).2 x hx
 .exact (LN.erase hb k).2 x hx⟩
theorem ldT(l:Lt):kr 2 (.elt (jD l) 1)=some (tm l.2):=rfl
theorem hRl(x:kg):hR 3 (A.top,[.sl 3 (x.map jD)]) 0=some (x.map jD):=rfl
theorem ldA(l:Lt):kU (.elt (jD l) 2)=some (jS l.2.args):=rfl
theorem jiU(l:Lt)(b:Bool):G 48 [ltm l,vb b]=some (vb (decide (l.1=b) && decide (l.2.name=[61])),[]):=by
 rw[g48];by_cases h:l.1=b
 .rw [decide_eq_true h,Bool.true_and];simp only[jg,h]
 .rw [decide_eq_false h,Bool.false_and];simp only[jg,h]
theorem jqh{t:T}(hb:Bx t)(he:t.name=[61])(hn:nodes t<=30):t.args.length=2/\qb (QA t)=true/\qb (jbD t)=true/\nodes (QA t)<=30/\nodes (jbD t)<=30/\jz 2 (jS t.args) (vi 0)=some (.elt (jm (QA t)) 0)/\jz 2 (jS t.args) (vi 1)=some (.elt (jm (jbD t)) 0):=by
 rcases hb with hb|hb
 rotate_left
 .rw [he]at hb;exact absurd hb.1 (by decide)
 obtain⟨f1,f2,f3,f4⟩:=K3 hb.2.1;have g1:=Zb f3;have g2:=Zb f4;exact⟨hb.2.1,hb.2.2 _ f3,hb.2.2 _ f4,by omega,by omega,f1,f2⟩
end Go.Proofs.YtkkcepmpbackoaaGreatDoor
