/- Pe -/
import Derived.Test.YtjgmjdidbgcljaaGreatDoorPd
import Derived.Test.YtjgmjdidbgcljaaGreatDoorPq
import Derived.Test.YtjgmjdidbgcljaaGreatDoorPb
namespace Go.Proofs.YtjgmjdidbgcljaaGreatDoor
open Go Go.RowKit Go.Proofs.YtjgmjdidbgcljaaGreatDoor.Abs
set_option linter.unusedSimpArgs false
set_option linter.unusedVariables false
set_option maxHeartbeats 1000000
theorem jsE(x y:Xb):(sLt x y || decide (x=y))=!sLt y x:=by
 rw[jjF,jjF];by_cases h1:x<y
 .rw [decide_eq_true h1,decide_eq_false (λh2=>List.lt_irrefl _ (List.lt_trans h1 h2))];rfl
 .by_cases h2:x=y
  .subst h2;rw[decide_eq_false h1,decide_eq_true rfl];rfl
  .rw [decide_eq_false h1,decide_eq_false h2,decide_eq_true (jAo h1 h2)];rfl
theorem jyc(b:Bool)(x y:Xb):jeH .leq b (sv x) (sv y)=some (vb (!sLt y x)):=by rw[<-jsE];rfl
theorem jyb(b:Bool)(x y:Xb):jeH .geq b (sv x) (sv y)=some (vb (!sLt x y)):=rfl
def jlZ:Option Xb->jem->Bool
 |_,[]=>true
 |none,q::r=>jdc q.1 && (jgQ q.2 && (!decide (q.2.name=q.1) && jlZ (some q.1) r))
 |some m,q::r=>sLt m q.1 && (jdc q.1 && (jgQ q.2 && (!decide (q.2.name=q.1) && jlZ (some q.1) r)))
def okB(q:Xb×T):Bool:=jdc q.1 && (jgQ q.2 && !decide (q.2.name=q.1))
theorem jrq:∀(s:jem)(m:Xb)(t:T),jlZ (some m) s=(jtn ((m,t)::s) && s.all okB)
 | [],m,t=>rfl
 |q::r,m,t=>by
  rw[jlZ,jrq r q.1 q.2,jtn,jbq,okB];cases sLt m q.1<;>cases jdc q.1<;>cases jgQ q.2<;>cases decide (q.2.name=q.1)<;>simp
theorem jrp(s:jem):(jlZ none s && decide (s.length<=12))=je0 s:=by
 have hd:∀q:Xb×T,dq q.2.name q.1=decide (q.2.name=q.1):=λq=>by
  by_cases h:q.2.name=q.1
  .rw [jiI.2 h,decide_eq_true h]
  .rw [jtw.2 h,decide_eq_false h]
 have ha:s.all (λq=>jdc q.1 && (jgQ q.2 && !dq q.2.name q.1))=s.all okB:=by
  unfold okB;congr 1;funext q;rw[hd]
 unfold je0;rw[ha];cases s with
 |nil=>rfl
 |cons q r=>
  rw[jlZ,jrq r q.1 q.2,jbq];unfold okB;cases jdc q.1<;>cases jgQ q.2<;>cases decide (q.2.name=q.1)<;>simp[Bool.and_comm]
def SzB(s:jem):Prop:=s.length<=1000000/\ ∀q∈s,q.1.length<=1000000/\Tz q.2
theorem SzB.sz{s:jem}(h:SzB s):Sz 1048576 s:=⟨by have:=h.1;omega,λq hq=>⟨by have:=(h.2 q hq).1;omega,(h.2 q hq).2⟩⟩
theorem jhl{s:jem}(h:je0 s=true):SzB s:=by
 obtain⟨h1,_,h3⟩:=jfR h;refine⟨by omega,λq hq=>⟨?_,?_⟩⟩
 .have:=jnj (h3 q hq).1;omega
 .have:=jnK q.2 (jlU (h3 q hq).2.1);have:=jjo h q hq;unfold Tz;omega
theorem jjh(q:Xb×T):jar 3 (.elt (bc q) 0)=some (.agg [sv q.1,sv q.2.name,tms q.2.args]):=rfl
theorem jru(s:jem)(hs:SzB s):G 139 [sb s]=some (vb (je0 s),[]):=by
 have hl:=hs.1;have key:=upto (P:=λi=>∀p:Option Xb,(p=none↔i=0)->(∀m,p=some m-> ∃h:i-1<s.length,s[i-1].1=m)->jrP (sbs s) (vi (s.length:Nat)) (vi (i:Nat)) (sbs s)=some (vb (jlZ p (s.drop i) && decide (s.length<=12)),[])) (n:=s.length) ?_ ?_ 0 (Nat.zero_le _) none (by simp) (λm h=>by cases h)
 .simp only[Int.natCast_zero,List.drop_zero]at key;rw[jrp]at key;rw[jHu];simp only[evz,key]
 .intro p _ _;have e:decide (((s.length:Nat):Int)<=12)=decide (s.length<=12):=by congr 1;exact propext (by omega)
  have:jlZ p []=true:=by cases p<;>rfl
  rw[jzR,List.drop_length,this,Bool.true_and,<-e];simp only[evz]
 .intro i hi ih p hp hq;have hlt:(i:Int)<((s.length:Nat):Int):=by omega
  have h5:=jef hi (by show s.length<=9223372036854775807;omega)
  have hm:=hs.2 _ (jcF hi);have e1:=jl3 s[i].1 (by show s[i].1.length<=9223372036854775807;omega);have e2:=jlk s[i].2 hm.2.wf hm.2;have ih:=ih (some s[i].1) (by simp) (λm h=>by cases h;exact⟨by simpa using hi,rfl⟩);rw[jzR,jdb hi];have e3:decide (s[i].2.name=s[i].1)=decide (s[i].2.name=s[i].1):=rfl;generalize hn:decide (s[i].2.name=s[i].1)=nn at *;have e4:jeH .eql false (sv s[i].2.name) (sv s[i].1)=some (vb nn):=by rw[jnL,hn]
  generalize hv:jlZ (some s[i].1) (s.drop (i+1))=vv at *;cases p with
  |none=>
   have h0:¬(0:Int)<(i:Int):=by have:=hp.1 rfl;omega
   rw[jlZ,hn,hv];cases hb:jdc s[i].1<;>rw[hb]at e1
   .simp only[evz,hlt,jaa hi,jjh,e1,Bool.false_and]
   cases hk:jgQ s[i].2<;>rw[hk]at e2
   .simp only[evz,hlt,jaa hi,jjh,e1,e2,h0,Bool.false_and,Bool.true_and]
   cases nn
   .simp only[evz,hlt,jaa hi,jjh,e1,e2,h0,e4,h5,ih,Bool.true_and]
   .simp only[evz,hlt,jaa hi,jjh,e1,e2,h0,e4,Bool.false_and,Bool.true_and]
  |some m=>
   obtain⟨hq1,rfl⟩:=hq m rfl;have h0:(0:Int)<(i:Int):=by
    have:¬i=0:=λh=>by have:=hp.2 h;cases this
    omega
   have c1:ck ((i:Int)-1)=some (vi ((i-1:Nat):Int)):=by rw[show(i:Int)-1=((i-1:Nat):Int) by omega];exact jeY (by omega) (by omega)
   have e5:=jyc false s[i].1 s[i-1].1;rw[jlZ,hn,hv];cases hb:jdc s[i].1<;>rw[hb]at e1
   .rw [Bool.false_and,Bool.and_false];simp only[evz,hlt,jaa hi,jjh,e1,Bool.false_and]
   cases hc:sLt s[i-1].1 s[i].1<;>rw[hc]at e5
   .simp only[evz,hlt,jaa hi,jaa hq1,jjh,e1,h0,c1,e5,Bool.false_and]
   cases hk:jgQ s[i].2<;>rw[hk]at e2
   .simp only[evz,hlt,jaa hi,jaa hq1,jjh,e1,h0,c1,e5,e2,Bool.false_and,Bool.true_and]
   cases nn
   .simp only[evz,hlt,jaa hi,jaa hq1,jjh,e1,h0,c1,e5,e2,e4,h5,ih,Bool.true_and]
   .simp only[evz,hlt,jaa hi,jaa hq1,jjh,e1,h0,c1,e5,e2,e4,Bool.false_and,Bool.true_and]
theorem jlT(s:jem)(hs:SzB s):G 159 [sb s]=some (vb (je0 s),[]):=by
 have hl:=hs.1;have key:=upto (P:=λi=>∀p:Option Xb,(p=none↔i=0)->(∀m,p=some m-> ∃h:i-1<s.length,s[i-1].1=m)->jrU (vi (i:Nat)) (sbs s)=some (vb (jlZ p (s.drop i) && decide (s.length<=12)),[])) (n:=s.length) ?_ ?_ 0 (Nat.zero_le _) none (by simp) (λm h=>by cases h)
 .simp only[Int.natCast_zero,List.drop_zero]at key;rw[jrp]at key;rw[jHH];simp only[evz,key]
 .intro p _ _;have e:decide (((s.length:Nat):Int)<=12)=decide (s.length<=12):=by congr 1;exact propext (by omega)
  have:jlZ p []=true:=by cases p<;>rfl
  rw[jzV,List.drop_length,this,Bool.true_and,<-e];simp only[evz]
 .intro i hi ih p hp hq;have hlt:(i:Int)<((s.length:Nat):Int):=by omega
  have h5:=jef hi (by show s.length<=9223372036854775807;omega)
  have hm:=hs.2 _ (jcF hi);have e1:=jg8 s[i].1 (by show s[i].1.length<=9223372036854775807;omega);have e2:=jiX s[i].2 hm.2.wf hm.2;have ih:=ih (some s[i].1) (by simp) (λm h=>by cases h;exact⟨by simpa using hi,rfl⟩);rw[jzV,jdb hi];generalize hn:decide (s[i].2.name=s[i].1)=nn at *;have e4:jeH .eql false (sv s[i].2.name) (sv s[i].1)=some (vb nn):=by rw[jnL,hn]
  generalize hv:jlZ (some s[i].1) (s.drop (i+1))=vv at *;cases p with
  |none=>
   have h0:¬(0:Int)<(i:Int):=by have:=hp.1 rfl;omega
   rw[jlZ,hn,hv];cases hb:jdc s[i].1<;>rw[hb]at e1
   .simp only[evz,hlt,jaa hi,jjh,e1,Bool.false_and]
   cases hk:jgQ s[i].2<;>rw[hk]at e2
   .simp only[evz,hlt,jaa hi,jjh,e1,e2,Bool.false_and,Bool.true_and]
   cases nn
   .simp only[evz,hlt,jaa hi,jjh,e1,e2,h0,e4,h5,ih,Bool.true_and]
   .simp only[evz,hlt,jaa hi,jjh,e1,e2,e4,Bool.false_and,Bool.true_and]
  |some m=>
   obtain⟨hq1,rfl⟩:=hq m rfl;have h0:(0:Int)<(i:Int):=by
    have:¬i=0:=λh=>by have:=hp.2 h;cases this
    omega
   have c1:ck ((i:Int)-1)=some (vi ((i-1:Nat):Int)):=by rw[show(i:Int)-1=((i-1:Nat):Int) by omega];exact jeY (by omega) (by omega)
   have e5:=jyb false s[i-1].1 s[i].1;rw[jlZ,hn,hv];cases hb:jdc s[i].1<;>rw[hb]at e1
   .rw [Bool.false_and,Bool.and_false];simp only[evz,hlt,jaa hi,jjh,e1,Bool.false_and]
   cases hk:jgQ s[i].2<;>rw[hk]at e2
   .rw [Bool.false_and,Bool.and_false,Bool.and_false];simp only[evz,hlt,jaa hi,jjh,e1,e2,Bool.false_and]
   cases nn
   .cases hc:sLt s[i-1].1 s[i].1<;>rw[hc]at e5
    .simp only[evz,hlt,jaa hi,jaa hq1,jjh,e1,h0,c1,e5,e2,e4,Bool.false_and]
    .simp only[evz,hlt,jaa hi,jaa hq1,jjh,e1,h0,c1,e5,e2,e4,h5,ih,Bool.true_and]
   .rw [Bool.not_true,Bool.false_and,Bool.and_false,Bool.and_false,Bool.and_false];simp only[evz,hlt,jaa hi,jjh,e1,e2,e4,Bool.false_and]
theorem jAX{α:Type}{R:α->α->Prop}(irr:∀a,¬R a a)(asy:∀a b,R a b-> ¬R b a):∀{l m:List α},l.Pairwise R->m.Pairwise R->(∀x,x∈l↔x∈m)->l=m
 | [],[],_,_,_=>rfl
 | [],b::m,_,_,hx=>absurd ((hx b).2 (by simp)) (by simp)
 |a::l,[],_,_,hx=>absurd ((hx a).1 (by simp)) (by simp)
 |a::l,b::m,h1,h2,hx=>by
  obtain⟨g1,g2⟩:=List.pairwise_cons.1 h1;obtain⟨k1,k2⟩:=List.pairwise_cons.1 h2;have hab:a=b:=by
   rcases yN.1 ((hx a).1 (by simp))with e|e
   .exact e
   rcases yN.1 ((hx b).2 (by simp))with e'|e'
   .exact e'.symm
   .exact (asy _ _ (k1 a e) (g1 b e')).elim
  subst hab;have:l=m:=jAX irr asy g2 k2 λx=>by
   constructor
   .intro hxl;rcases yN.1 ((hx x).1 (by simp[hxl]))with e|e
    .exact (irr x (e ▸ g1 x hxl)).elim
    .exact e
   .intro hxm;rcases yN.1 ((hx x).2 (by simp[hxm]))with e|e
    .exact (irr x (e ▸ k1 x hxm)).elim
    .exact e
  rw[this]
theorem jkp{x y z:Xb}(h1:sLt x y=true)(h2:sLt y z=true):sLt x z=true:=by
 rw[jjF,Q5]at *;exact List.lt_trans h1 h2
theorem jsb:∀{s:jem},jtn s=true->s.Pairwise λp q=>sLt p.1 q.1=true
 | [],_=>List.Pairwise.nil
 | [p],_=>by simp
 |p::q::s,h=>by
  rw[jtn,Yn]at h;have ih:=jsb h.2;refine List.pairwise_cons.2 ⟨λx hx=>?_,ih⟩;rcases yN.1 hx with e|e
  .rw [e];exact h.1
  .exact jkp h.1 ((List.pairwise_cons.1 ih).1 x e)
theorem jF4{m:Nat}(h:m<=2000000):jcJ .u64 (vi (m:Nat))=some (.val (.int .u64 (m:Nat))):=by
 show some (A.val (.int .u64 (IntKind.u64.wrap (m:Nat))))=_;have:IntKind.u64.wrap ((m:Nat):Int)=(m:Nat):=by
  unfold IntKind.wrap;simp[IntKind.bits,IntKind.signed];omega
 rw[this]
theorem jF5{m:Nat}(h:m<=2000000):jeH .shr false (.val (.int .u64 (m:Nat))) (.val (.int .u64 1))=some (.val (.int .u64 ((m / 2:Nat):Int))):=by
 show some (A.val (.int .u64 (((m:Nat):Int).fdiv (2 ^ min 1 64))))=_;rw[Int.fdiv_eq_ediv_of_nonneg _ (by decide)];rfl
theorem jF6{m:Nat}(h:m<=2000000):jcJ .i64 (.val (.int .u64 (m:Nat)))=some (vi (m:Nat)):=jeY (by omega) (by omega)
theorem jwB(x y:Xb):jgY x y<0↔sLt x y=true:=by
 unfold jgY;cases h:sLt x y with
 |true=>simp
 |false=>
  rw[ko Bool.false_ne_true];split<;>simp
theorem juF(q:Xb×T)(n:Xb):G 185 [.agg (bc q),sv n]=some (vi (jgY q.1 n),[]):=by
 have e:=jlf q.1 n;rw[jH1];simp only[evz,e]
theorem jn5{s:jem}(hs:s.Pairwise λp q=>sLt p.1 q.1=true){n:Xb}{i:Nat}(h1:∀k,(h:k<s.length)->k<i->sLt s[k].1 n=true)(h2:∀k,(h:k<s.length)->i<=k->sLt s[k].1 n=false):look s n=if h:i<s.length then(if s[i].1=n then some s[i].2 else none)else none:=by
 have hne:∀k,(h:k<s.length)->k≠i->s[k].1≠n:=λk h hk e=>by
  rcases Nat.lt_or_ge k i with hl|hl
  .have:=h1 k h hl;rw[e,jlM]at this;cases this
  .have hi:i<k:=by omega
   have:=(List.pairwise_iff_getElem.1 hs) i k (by omega) h hi;rw[e]at this;rw[h2 i (by omega) (jl _)]at this;cases this
 split
 .rename_i hi;split
  .rename_i he;have hm:(n,s[i].2)∈s:=by rw[<-he];exact jcF hi
   cases hl:look s n with
   |none=>exact(jiZ.1 hl _ hm rfl).elim
   |some r=>
    obtain⟨k,hk,e⟩:=List.mem_iff_getElem.1 (jjY hl);have:k=i:=Classical.byContradiction λh=>hne k hk h (by rw[e]);subst this;rw[e]
  .rename_i he;refine jiZ.2 λp hp=>?_;obtain⟨k,hk,rfl⟩:=List.mem_iff_getElem.1 hp;by_cases h:k=i
   .subst h;exact he
   .exact hne k hk h
 .rename_i hi;refine jiZ.2 λp hp=>?_;obtain⟨k,hk,rfl⟩:=List.mem_iff_getElem.1 hp;exact hne k hk (by omega)
theorem juv(s:jem)(hl:s.length<=1000000)(hs:s.Pairwise λp q=>sLt p.1 q.1=true)(n:Xb):∀(d i j:Nat),j-i<=d->i<=j->j<=s.length->(∀k,(h:k<s.length)->k<i->sLt s[k].1 n=true)->(∀k,(h:k<s.length)->j<=k->sLt s[k].1 n=false)->
  ∃(i':Nat)(b:Bool),jo4 (sbs s) (sv n) (.fn 185 []) (vi (s.length:Nat)) (vi (i:Nat)) (vi (j:Nat))=some (.tup [vi (i':Nat),vb b],[])/\look s n=(if h:i'<s.length then(if b then some s[i'].2 else none)else none)/\(b=true->i'<s.length):=by
 intro d;induction d with
 |zero=>
  intro i j hd hij hj h1 h2;have hij:i=j:=by omega
  subst hij;have hlt:¬(i:Int)<(i:Int):=by omega
  have hp:K.pureF 185=true:=rfl;rw[jz3];by_cases hi:i<s.length
  .have hi':(i:Int)<((s.length:Nat):Int):=by omega
   have cc:DX.run K (MM K) (.callc (.fn 185 []) [.agg (bc s[i]),sv n] false)=some (vi (jgY s[i].1 n)):=by
    rw[jir hp,ZE,juF];rfl
   refine⟨i,decide (s[i].1=n),?_,?_,λ_=>hi⟩
   .have hz:decide (jgY s[i].1 n=0)=decide (s[i].1=n):=decide_eq_decide.2 (jja.zero _ _);rw[<-hz];simp only[evz,hlt,hi',jaa hi,jjh,cc]
   .rw [jn5 hs h1 h2,dif_pos hi,dif_pos hi];by_cases he:s[i].1=n
    .rw [jc6 he,decide_eq_true he,jc6 rfl]
    .rw [ko he,decide_eq_false he,ko Bool.false_ne_true]
  .have hi':¬(i:Int)<((s.length:Nat):Int):=by omega
   refine⟨i,false,?_,?_,λh=>by cases h⟩
   .simp only[evz,hlt,hi']
   .rw [jn5 hs h1 h2,dif_neg hi,dif_neg hi]
 |succ d ih=>
  intro i j hd hij hj h1 h2;by_cases hlt0:i<j;rotate_left
  .exact ih i j (by omega) hij hj h1 h2
  have hlt:(i:Int)<(j:Int):=by omega
  have hp:K.pureF 185=true:=rfl;have hm:(i+j) / 2<s.length:=by omega
  have c0:ck ((i:Int)+(j:Int))=some (vi ((i+j:Nat):Int)):=jeY (by omega) (by omega);have c1:=jF4 (m:=i+j) (by omega);have c2:=jF5 (m:=i+j) (by omega);have c3:=jF6 (m:=(i+j) / 2) (by omega);have cc:DX.run K (MM K) (.callc (.fn 185 []) [.agg (bc s[(i+j) / 2]),sv n] false)=some (vi (jgY s[(i+j) / 2].1 n)):=by
   rw[jir hp,ZE,juF];rfl
  have ix:=jaa (k:=3) (f:=bc) hm;have hpw:=List.pairwise_iff_getElem.1 hs;rw[jz3];have hc:=jwB s[(i+j) / 2].1 n;generalize hg:jgY s[(i+j) / 2].1 n=c at *;generalize hme:(i+j) / 2=m at *;by_cases hneg:c<0
  .have hs1:=hc.1 hneg;have h5:ck ((m:Int)+1)=some (vi ((m+1:Nat):Int)):=jeY (by omega) (by omega);have:=ih (m+1) j (by omega) (by omega) hj (λk hk hk2=>by
    by_cases e:k=m
    .subst e;exact hs1
    .exact jkp (hpw k m hk hm (by omega)) hs1) h2
   obtain⟨i',b,e1,e2⟩:=this;exact⟨i',b,by simp only[evz,hlt,c0,c1,c2,c3,ix,jjh,cc,hneg,h5];exact e1,e2⟩
  .have hs1:sLt s[m].1 n=false:=by
    cases h:sLt s[m].1 n with
    |false=>rfl
    |true=>exact(hneg (hc.2 h)).elim
   have:=ih i m (by omega) (by omega) (by omega) h1 (λk hk hk2=>by
    by_cases e:k=m
    .subst e;exact hs1
    .cases h:sLt s[k].1 n with
     |false=>rfl
     |true=>rw[jkp (hpw m k hm hk (by omega)) h]at hs1;cases hs1)
   obtain⟨i',b,e1,e2⟩:=this;exact⟨i',b,by simp only[evz,hlt,c0,c1,c2,c3,ix,jjh,cc,hneg];exact e1,e2⟩
def outT(o:Option T):Xe:=match o with|some t=>some (.tup [tm t,vb true],[])|none=>some (.tup [.agg [sv [],.sl 2 []],vb false],[])
theorem jqb(s:jem)(hs:je0 s=true)(n:Xb):G 140 [sb s,sv n]=outT (look s n):=by
 have hl:=(jfR hs).1;obtain⟨i,b,e1,e2,e3⟩:=juv s (by omega) (jsb (jfR hs).2.1) n s.length 0 s.length (by omega) (Nat.zero_le _) (jl _) (λk _ h=>by omega) (λk h1 h2=>by omega);simp only[Int.natCast_zero]at e1;have e4:G 184 [sbs s,sv n,.fn 185 []]=some (.tup [vi (i:Nat),vb b],[]):=by
  rw[jH0];simp only[evz,e1]
 rw[jHv,e2];cases b with
 |false=>
  have:(if h:i<s.length then(if false=true then some s[i].2 else none)else none)=(none:Option T):=by split<;>simp
  rw[this];simp only[evz,e4];rfl
 |true=>
  have hi:=e3 rfl;rw[dif_pos hi,jc6 rfl];simp only[evz,e4,jaa hi,jkM];rfl
theorem jqJ(s:jem)(hs:je0 s=true):∀t:T,Rx' t->Tz t->G 101 [sb s,tm t]=some (tm (sub s t),[]):=by
 refine T.ind λt ih hk ht=>?_;have hz:=ht;unfold Tz at hz;rw[jgG]at hz;rw[jG4];by_cases ha:t.args=[]
 .have e1:=jqb s hs t.name;have h0:jd7 (tms t.args)=some (vi 0):=by rw[ha];rfl
  cases hl:look s t.name with
  |some r=>
   rw[hl]at e1;have e1:G 140 [sb s,sv t.name]=some (.tup [tm r,vb true],[]):=e1;have hv:jdc t.name=true:=((jfR hs).2.2 _ (jjY hl)).1;have e2:=jjS r ((jhl hs).2 _ (jjY hl)).2;have:sub s t=r:=by rw[ji6 hv,jiQ,hl];rfl
   rw[this];simp only[evz,h0,e1,e2]
  |none=>
   rw[hl]at e1;have e1:G 140 [sb s,sv t.name]=some (.tup [.agg [sv [],.sl 2 []],vb false],[]):=e1;have:sub s t = .mk t.name []:=by
    cases hv:jdc t.name with
    |true=>rw[ji6 hv,jiQ,hl];rfl
    |false=>rw[jiO hv,ha];rfl
   rw[this];simp only[evz,h0,e1];rfl
 .have hv:jdc t.name=false:=by
   cases hv:jdc t.name with
   |false=>rfl
   |true=>exact(ha (hk.va hv)).elim
  have hpos:0<t.args.length:=by
   cases h:t.args with
   |nil=>exact(ha h).elim
   |cons _ _=>simp
  have h0:¬((t.args.length:Nat):Int)=0:=by omega
  rw[jiO hv];generalize hus:t.args.map (sub s)=us at *;have hul:us.length=t.args.length:=by rw[<-hus,jbw]
  have hm:=jnN (b:=40) (n:=t.args.length) (by omega) (by omega);have hz0:(0:Int)<((t.args.length:Nat):Int):=by omega
  have step:∀i,(hi:i<t.args.length)->G 101 [sb s,tm t.args[i]]=some (tm (us[i]'(by omega)),[]):=λi hi=>by
   rw[ih t.args[i] (jcF _) (hk.args _ (jcF _)) (ht.args _ (jcF _))];simp only[<-hus,List.getElem_map]
  have stepR:∀i,(hi:i<t.args.length)->pIx (part jdd [sv [],.sl 2 []] us i).length (vi (i:Nat))=some i/\jfx (part jdd [sv [],.sl 2 []] us i) i=some [sv [],.sl 2 []]/\jau (part jdd [sv [],.sl 2 []] us i) i [sv (us[i]'(by omega)).name,tms (us[i]'(by omega)).args]=part jdd [sv [],.sl 2 []] us (i+1):=λi hi=>by
   have h4:=jud (f:=jdd) (z:=[sv [],.sl 2 []]) (xs:=us) (i:=i) (by omega);rw[jfY]at h4;refine⟨jg7 (by rw[jn7 (by omega)];omega),juc (by omega),h4⟩
  have key:=(upto (P:=λi=>1<=i->jvd (tms t.args) (vi (t.args.length:Nat)) (vi (i:Nat)) (sbs s) (sv []) (sv t.name) [] (part jdd [sv [],.sl 2 []] us i)=some (tm (.mk t.name us),[])) (n:=t.args.length) ?_ ?_ 1 hpos (jl _));rotate_left
  .intro _;rw[jzE,<-hul,jub];simp only[evz];rfl
  .intro i hi ih' _;have hlt:(i:Int)<((t.args.length:Nat):Int):=by omega
   have h5:=jef hi (by show t.args.length<=9223372036854775807;omega)
   have e2:=step i hi;obtain⟨h2,h3,h4⟩:=stepR i hi;have ih':=ih' (by omega);rw[jzE];simp only[evz,hlt,jaa hi,ja1,e2,h2,h3,jmL,h4,h5,ih']
  have e2:=step 0 hpos;obtain⟨h2,h3,h4⟩:=stepR 0 hpos;rw[<-jra]at h2 h3 h4;simp only[Int.natCast_zero,jfO]at h2 h4 key;have ix:=jaa (k:=2) (f:=jdd) hpos;simp only[Int.natCast_zero]at ix;have h5:ck (0+1)=some (vi ((1:Nat):Int)):=jeY (n:=0+1) (by omega) (by omega);have first:jvc (tms t.args) (vi (t.args.length:Nat)) (vi 0) (sbs s) (sv []) (sv t.name) (jcP us.length [sv [],.sl 2 []]) []=some (tm (.mk t.name us),[]):=by
   rw[jEI];simp only[evz,hz0,ix,ja1,e2,h2,h3,jmL,h4,h5,key]
  rw[hul]at first
  simp only[evz,h0,hm,first]
theorem jE5(s:jem):∀t:T,Rx' t->nodes t<=nodes (sub s t)/\dep t<=dep (sub s t):=by
 refine T.ind λt ih hk=>?_;cases hv:jdc t.name with
 |true=>
  have ha:=hk.va hv;rw[jfj t,jjz t,ha];have:=jhN (sub s t);have:=jjz (sub s t);simp only[jdi,jj4];omega
 |false=>
  have hL:∀us:Xg,(∀u∈us,nodes u<=nodes (sub s u)/\dep u<=dep (sub s u))->jdi us<=jdi (us.map (sub s))/\jj4 us<=jj4 (us.map (sub s)):=by
   intro us;induction us with
   |nil=>intro _;exact⟨jl _,jl _⟩
   |cons v vs ih2=>
    intro h;have h1:=h v (by simp);have h2:=ih2 λw hw=>h w (by simp[hw]);simp only[j5,jdi,jj4];omega
  have:=hL t.args λu hu=>ih u hu (hk.args u hu);rw[jfj t,jjz t,jfj (sub s t),jjz (sub s t),jkq hv];omega
def AxT(t:T):Prop:=okT t=true\/(t.name=[61]/\t.args.length=2/\ ∀u∈t.args,okT u=true)
theorem AxT.rx{t:T}(h:AxT t):Rx' t:=h.elim Or.inl λh=>Or.inr ⟨h.1,h.2.2⟩
theorem AxT.tz{t:T}(h:AxT t)(hn:nodes t<=100000):Tz t:=by
 rcases h with h|h
 .have:=jnK t h;unfold Tz;omega
 .unfold Tz;rw[jfj]at hn;rw[jgG,h.1,h.2.1];have:=jw4 h.2.2;simp only[yv,jgS];omega
theorem AxT.sub{s:jem}(hs:je0 s=true){t:T}(h:AxT t):AxT (sub s t):=by
 rcases h with h|h
 .exact Or.inl (jkO (jii hs) t h)
 .have hvn:jdc t.name=false:=by rw[h.1];decide
  right;rw[jiO hvn];refine⟨h.1,by show(t.args.map _).length=2;rw[jbw,h.2.1],λu hu=>?_⟩;obtain⟨a,ha,rfl⟩:=jN.1 hu;exact jkO (jii hs) a (h.2.2 a ha)
theorem AxT.sub_tz{s:jem}(hs:je0 s=true){t:T}(h:AxT t)(hn:nodes t<=3000):Tz (Go.Proofs.YtjgmjdidbgcljaaGreatDoor.sub s t):=by
 have:=jyo (u:=s) (Z:=30) (by decide) (jjo hs) t;exact(h.sub hs).tz (by omega)
theorem jyk{s:jem}{t:T}(h:Rx' t)(hs:jfs (sub s t)=true):jfs t=true:=by
 have:=jE5 s t h;simp only[jfs,Yn,Q5]at hs⊢;omega
theorem jh7(s:jem)(hs:je0 s=true)(t:T)(h:AxT t)(hn:nodes t<=3000):G 60 [sb s,tm t]=outT (if jfs (sub s t)then some (sub s t)else none):=by
 have ht:=h.tz (by omega);have hu:=h.sub_tz hs hn;have e1:=jqJ s hs t h.rx ht;have e2:=jmh (sub s t) hu.wf hu;rw[g60];cases hsm:jfs (sub s t)<;>rw[hsm]at e2
 .rw [ko Bool.false_ne_true];simp only[evz,e1,e2];rfl
 .rw [jc6 rfl];simp only[evz,e1,e2];rfl
theorem jjP(s:jem)(hs:je0 s=true)(t:T)(h:AxT t)(hn:nodes t<=3000):G 113 [sb s,tm t]=outT (if jfs (sub s t)then some (sub s t)else none):=by
 have ht:=h.tz (by omega);have hu:=h.sub_tz hs hn;have e0:=jlT s (jhl hs);have e1:=jwz ht h;have e2:=jia s (jhl hs).sz t ht;have e3:=jwz hu (h.sub hs);rw[hs]at e0;rw[jG9];cases hsm:jfs (sub s t)<;>rw[hsm]at e3
 .rw [ko Bool.false_ne_true];cases hs1:jfs t<;>rw[hs1]at e1
  .simp only[evz,e0,e1];rfl
  .simp only[evz,e0,e1,e2,e3];rfl
 .rw [jc6 rfl];rw[jyk h.rx hsm]at e1;simp only[evz,e0,e1,e2,e3];rfl
abbrev LtB(p q:Xb×T):Prop:=sLt p.1 q.1=true
theorem jn9(n:Xb)(t:T):∀s:jem,s.Pairwise LtB->(∀q∈s,q.1≠n)->(jj8 s n t).Pairwise LtB
 | [],_,_=>by unfold jj8;simp
 |p::s,h,hn=>by
  obtain⟨h1,h2⟩:=List.pairwise_cons.1 h;cases hc:sLt p.1 n with
  |true=>
   have e:jj8 (p::s) n t=p::jj8 s n t:=by
    unfold jj8;rw[List.takeWhile_cons_of_pos (p:=λp:Xb×T=>sLt p.1 n) hc,List.dropWhile_cons_of_pos (p:=λp:Xb×T=>sLt p.1 n) hc,jG]
   rw[e];refine List.pairwise_cons.2 ⟨λx hx=>?_,jn9 n t s h2 λq hq=>hn q (by simp[hq])⟩;rcases jp3.1 hx with hx|hx
   .exact h1 x hx
   .rw [hx];exact hc
  |false=>
   have e:jj8 (p::s) n t=(n,t)::p::s:=by
    unfold jj8;rw[List.takeWhile_cons_of_neg (p:=λp:Xb×T=>sLt p.1 n) (by simp[hc]),List.dropWhile_cons_of_neg (p:=λp:Xb×T=>sLt p.1 n) (by simp[hc])];rfl
   have hlt:sLt n p.1=true:=by
    have h3:=jsE n p.1;rw[hc]at h3;have h4:decide (n=p.1)=false:=decide_eq_false λe=>hn p (by simp) e.symm;rw[h4,Bool.or_false]at h3;exact h3
   rw[e];refine List.pairwise_cons.2 ⟨λx hx=>?_,h⟩;rcases yN.1 hx with e|e
   .rw [e];exact hlt
   .exact jkp hlt (h1 x e)
theorem jkN:∀(m s:jem),s.Pairwise LtB->(m.map Prod.fst).Nodup->(∀p∈m,∀q∈s,q.1≠p.1)->(m.foldl (λs p=>jjN s p.1 p.2) s).Pairwise LtB
 | [],s,h,_,_=>h
 |p::m,s,h,hn,hd=>by
  rw[j5,Q0]at hn;rw[List.foldl_cons];by_cases he:p.2.name=p.1
  .have:jjN s p.1 p.2=s:=jc6 he;rw[this];exact jkN m s h hn.2 λq hq r hr=>hd q (by simp[hq]) r hr
  .have:jjN s p.1 p.2=jj8 s p.1 p.2:=ko he;rw[this];refine jkN m _ (jn9 p.1 p.2 s h (hd p (by simp))) hn.2 λq hq r hr=>?_;rcases jp3.1 hr with hr|hr
   .exact hd q (by simp[hq]) r hr
   .rw [hr];intro e;exact hn.1 (jN.2 ⟨q,hq,e.symm⟩)
theorem jmr:∀(m s:jem),m.foldl (λs p=>jjN s p.1 p.2) s=(m.filter λp=> !decide (p.2.name=p.1)).foldl (λs p=>jjN s p.1 p.2) s
 | [],s=>rfl
 |p::m,s=>by
  rw[List.foldl_cons,List.filter_cons];by_cases he:p.2.name=p.1
  .rw [ko (by simp[he]),show jjN s p.1 p.2=s from jc6 he];exact jmr m s
  .rw [jc6 (by simp[he]),List.foldl_cons];exact jmr m _
theorem jsJ{l s:jem}(hn:(l.map Prod.fst).Nodup)(hk:∀p∈l,p.2.name≠p.1)(hp:s.Perm l)(hs:s.Pairwise λa b=>¬jgY b.1 a.1<0):s=jmq l:=by
 have h1:=jkN l [] List.Pairwise.nil hn λp _ q h=>by cases h
 have h2:=(jj0 l [] hk).2;refine jAX (R:=LtB) (λa h=>by unfold LtB at h;rw[jlM]at h;cases h) (λa b h h'=>by have:=jkp h h';rw[jlM]at this;cases this) ?_ h1 λx=>?_
 .have hne:s.Pairwise λa b=>a.1≠b.1:=by
   have:(s.map Prod.fst).Nodup:=(hp.map Prod.fst).nodup_iff.2 hn;rw[List.nodup_iff_pairwise_ne]at this;exact List.pairwise_map.1 this
  refine(hs.and hne).imp λ{a b} h=>?_;have h3:=jsE a.1 b.1;rw[decide_eq_false h.2,Bool.or_false]at h3;show sLt a.1 b.1=true;rw[h3];cases hc:sLt b.1 a.1 with
  |false=>rfl
  |true=>exact(h.1 ((jwB _ _).2 hc)).elim
 .rw [hp.mem_iff];have:=h2 x;simp only[jby,false_or]at this;exact this.symm
def jhB(o:Option jem):Xe:=match o with|some s=>some (.tup [sb s,vb true],[])|none=>some (.tup [.agg [.sl 3 []],vb false],[])
theorem jw8{n:Nat}(h:n<=1000000):jcK n 56=true:=jvJ (by omega)
theorem jAn(p q:Xb×T):G 142 [.agg (bc p),.agg (bc q)]=some (vi (jgY p.1 q.1),[]):=by
 have e:=jlf p.1 q.1;rw[jHw];simp only[evz,e]
def jqT(l:jem):jem:=l.filter λp=> !decide (p.2.name=p.1)
theorem jlr{s:jem}(h:je0 s=true):(s.map Prod.fst).Nodup:=by
 rw[List.nodup_iff_pairwise_ne,List.pairwise_map];exact(jsb (jfR h).2.1).imp λ{a b} h e=>by rw[e,jlM]at h;cases h
def jjU(s u:jem):jem:=jqT (s.map λq=>(q.1,sub u q.2))++u.filter λq=>(look s q.1).isNone
theorem jwL{s u:jem}(hu:je0 u=true):jmq (jjU s u)=jg2 s u:=by
 unfold jg2 jjU;unfold jmq;rw[List.foldl_append,List.foldl_append,jmr (s.map _)];rfl
theorem jpq{s u:jem}(hs:je0 s=true)(hu:je0 u=true):(jjU s u).length<=24/\((jjU s u).map Prod.fst).Nodup/\(∀p∈jjU s u,p.2.name≠p.1)/\ ∀p∈jjU s u,p.1.length<=1000000/\Tz p.2:=by
 obtain⟨ls,_,vs⟩:=jfR hs;obtain⟨lu,_,vu⟩:=jfR hu;have hs2:∀p∈jqT (s.map λq=>(q.1,sub u q.2)),p.2.name≠p.1/\ ∃q∈s,p.1=q.1/\p.2=sub u q.2:=λp hp=>by
  obtain⟨h1,h2⟩:=List.mem_filter.1 hp;obtain⟨q,hq,rfl⟩:=jN.1 h1;exact⟨by simpa using h2,q,hq,rfl,rfl⟩
 refine⟨?_,?_,λp hp=>?_,λp hp=>?_⟩
 .unfold jjU jqT;have h1:=List.length_filter_le (λp:Xb×T=> !decide (p.2.name=p.1)) (s.map λq=>(q.1,sub u q.2));have h2:=List.length_filter_le (λq:Xb×T=>(look s q.1).isNone) u;rw[yM];rw[jbw]at h1;omega
 .unfold jjU;rw[jv];refine jfP.2 ⟨?_,?_,λa ha b hb=>?_⟩
  .have:((jqT (s.map λq=>(q.1,sub u q.2))).map Prod.fst).Sublist (s.map Prod.fst):=by
    have h:=(List.filter_sublist (p:=λp:Xb×T=> !decide (p.2.name=p.1)) (l:=s.map λq=>(q.1,sub u q.2))).map Prod.fst;rw[jbx]at h;exact h
   exact(jlr hs).sublist this
  .exact (jlr hu).sublist (List.filter_sublist.map Prod.fst)
  .obtain ⟨p,hp,rfl⟩:=jN.1 ha;obtain⟨q,hq,rfl⟩:=jN.1 hb;obtain⟨_,r,hr,e,_⟩:=hs2 p hp;have h3:=(List.mem_filter.1 hq).2;rw[Option.isNone_iff_eq_none]at h3;intro e2;exact jiZ.1 h3 r hr (by rw[<-e,e2])
 .rcases Yo.1 hp with hp|hp
  .exact (hs2 p hp).1
  .exact (vu p (List.mem_filter.1 hp).1).2.2
 .rcases Yo.1 hp with hp|hp
  .obtain ⟨_,q,hq,e1,e2⟩:=hs2 p hp;rw[e1,e2];have h1:=(jhl hs).2 q hq;exact⟨h1.1,AxT.sub_tz hu (Or.inl (jii hs q hq)) (by have:=jjo hs q hq;omega)⟩
  .exact (jhl hu).2 p (List.mem_filter.1 hp).1
theorem jwD{s u:jem}(hs:je0 s=true)(hu:je0 u=true):SzB (jg2 s u):=by
 obtain⟨h1,h2,h3,h4⟩:=jpq hs hu;rw[<-jwL hu];obtain⟨f1,f2⟩:=jj0 (jjU s u) [] h3;refine⟨by unfold jmq;rw[f1];simp;omega,λq hq=>?_⟩;have:=(f2 q).1 hq;simp only[jby,false_or]at this;exact h4 q this
theorem jnX(s u:jem)(hs:je0 s=true)(hu:je0 u=true):G 100 [sb s,sb u]=jhB (if je0 (jg2 s u)then some (jg2 s u)else none):=by
 obtain⟨g1,g2,g3,g4⟩:=jpq hs hu;have ls:=(jfR hs).1;have lu:=(jfR hu).1;obtain⟨so,p1,p2,p3⟩:=jty jja Prod.fst bc 3 142 rfl (jjU s u) (by omega) λx _ y _=>jAn x y;have hso:=jsJ g2 g3 p1 p2;rw[jwL hu]at hso;subst hso;have e1:=jru (jg2 s u) (jwD hs hu);have fin:jnr (sbs u) (vi (u.length:Nat)) (vi (u.length:Nat)) (sbs s) [] ((jjU s u).map bc)=jhB (if je0 (jg2 s u)then some (jg2 s u)else none):=by
  have hC:ju8 ((jjU s u).map bc)=some (.top,[.sl 3 ((jg2 s u).map bc)]):=by rw[jEm];exact p3
  have r1:hR 3 (A.top,[.sl 3 ((jg2 s u).map bc)]) 0=some ((jg2 s u).map bc):=rfl;rw[jzD];cases hv:je0 (jg2 s u)<;>rw[hv]at e1
  .rw [ko Bool.false_ne_true];have e1:(G 139 [sb (jg2 s u)]).bind (fin true)=some (vb false):=by rw[e1];rfl
   simp only[evz,hC,r1,e1];rfl
  .rw [jc6 rfl];have e1:(G 139 [sb (jg2 s u)]).bind (fin true)=some (vb true):=by rw[e1];rfl
   simp only[evz,hC,r1,e1];rfl
 have k1:=upto (P:=λi=>∀R:jem,R.length<=12+i->R++(u.drop i).filter (λq=>(look s q.1).isNone)=jjU s u->jnr (sbs u) (vi (u.length:Nat)) (vi (i:Nat)) (sbs s) [] (R.map bc)=jhB (if je0 (jg2 s u)then some (jg2 s u)else none)) (n:=u.length) ?_ ?_ 0 (Nat.zero_le _);rotate_left
 .intro R _ hR;rw[List.drop_length,List.filter_nil,ZE]at hR;rw[hR];exact fin
 .intro i hi ih R hRl hR;have hlt:(i:Int)<((u.length:Nat):Int):=by omega
  have h5:ck ((i:Int)+1)=some (vi ((i+1:Nat):Int)):=jeY (by omega) (by omega);have e2:=jqb s hs u[i].1;rw[jdb hi,List.filter_cons]at hR;rw[jzD];cases hl:look s u[i].1 with
  |some r=>
   rw[hl]at e2 hR;have e2:G 140 [sb s,sv u[i].1]=some (.tup [tm r,vb true],[]):=e2;rw[ko (by simp)]at hR;have:=ih R (by omega) hR;simp only[evz,hlt,jaa hi,jjh,e2,h5,this]
  |none=>
   rw[hl]at e2 hR;have e2:G 140 [sb s,sv u[i].1]=some (.tup [.agg [sv [],.sl 2 []],vb false],[]):=e2;rw[jc6 (by simp)]at hR;have:=ih (R++[u[i]]) (by rw[yM];simp only[yv,jgS];omega) (by rw[jbs];exact hR);have e3:=jjS u[i].2 ((jhl hu).2 _ (jcF hi)).2;have hf:jcK (R.length+1) 56=true:=jw8 (by omega);have ha:jgo (R.map bc) [[sv u[i].1,sv u[i].2.name,tms u[i].2.args]]=(R++[u[i]]).map bc:=by rw[jv];rfl
   simp only[evz,hlt,jaa hi,jjh,e2,e3];generalize hB:JY _ _ _=B;have hB':B=some (.agg (bc u[i])):=by rw[<-hB];kernel_rfl
   rw[hB'];simp only[evz,hf,ha,h5,this]
 have k0:=upto (P:=λi=>∀R:jem,R.length<=i->R++(jqT ((s.drop i).map λq=>(q.1,sub u q.2))++u.filter λq=>(look s q.1).isNone)=jjU s u->joU (sbs s) (vi (s.length:Nat)) (vi (i:Nat)) (sbs s) (sbs u) [] (R.map bc)=jhB (if je0 (jg2 s u)then some (jg2 s u)else none)) (n:=s.length) ?_ ?_ 0 (Nat.zero_le _) [] (Nat.zero_le _) rfl
 .simp only[Int.natCast_zero,List.map_nil]at k0;rw[jG3];simp only[evz,k0]
 .intro R hRl hR;have:=k1 R (by omega) (by rw[List.drop_zero];rw[List.drop_length]at hR;exact hR);simp only[Int.natCast_zero]at this;rw[jzC];simp only[evz,this]
 .intro i hi ih R hRl hR;have hlt:(i:Int)<((s.length:Nat):Int):=by omega
  have h5:ck ((i:Int)+1)=some (vi ((i+1:Nat):Int)):=jeY (by omega) (by omega);have hm:=(jhl hs).2 _ (jcF hi);have e2:=jqJ u hu s[i].2 (Or.inl (jii hs _ (jcF hi))) hm.2;rw[jdb hi,j5,jqT,List.filter_cons]at hR;rw[jzC];by_cases he:(sub u s[i].2).name=s[i].1
  .rw [ko (by simp[he])]at hR;have:=ih R (by omega) hR;simp only[evz,hlt,jaa hi,jjh,e2,he,h5,this]
  .rw [jc6 (by simp[he])]at hR;have:=ih (R++[(s[i].1,sub u s[i].2)]) (by rw[yM];simp only[yv,jgS];omega) (by rw[jbs];exact hR);have hf:jcK (R.length+1) 56=true:=jw8 (by omega);have ha:jgo (R.map bc) [[sv s[i].1,sv (sub u s[i].2).name,tms (sub u s[i].2).args]]=(R++[(s[i].1,sub u s[i].2)]).map bc:=by rw[jv];rfl
   simp only[evz,hlt,jaa hi,jjh,e2,he,hf,ha,h5,this]
theorem jsq(s u:jem)(hs:je0 s=true)(hu:je0 u=true):G 210 [sb s,sb u]=some (sb (jg2 s u),[]):=by
 have ls:=(jfR hs).1;have lu:=(jfR hu).1;have r1:∀x:jem,hR 3 (A.top,[sbs x]) 0=some (x.map bc):=λx=>rfl;have k1:=upto (P:=λi=>∀R:jem,R.length<=12+i->(∀q∈R,Tz q.2)->jo5 (vi (i:Nat)) (sbs s) (sbs u) [] (R.map bc)=some (sb (((u.drop i).filter λq=>(look s q.1).isNone).foldl (λs p=>jjN s p.1 p.2) R),[])) (n:=u.length) ?_ ?_ 0 (Nat.zero_le _);rotate_left
 .intro R _ _;rw[jz9,List.drop_length];simp only[evz];rfl
 .intro i hi ih R hR hz;have hlt:(i:Int)<((u.length:Nat):Int):=by omega
  have h5:ck ((i:Int)+1)=some (vi ((i+1:Nat):Int)):=jeY (by omega) (by omega);have hm:=(jhl hu).2 _ (jcF hi);rw[jz9,jdb hi,List.filter_cons];rcases jqZ s (by omega) u[i].1 with⟨h1,h2⟩|⟨k,hk,h1,h2⟩
  .have e3:=jxd R (by omega) u[i].1 u[i].2 hm.2;have:=ih (jjN R u[i].1 u[i].2) (by have:=jui R u[i].1 u[i].2;omega) λq hq=>(juj hq).elim (hz q) λe=>by rw[e];exact hm.2
   rw[h1,jc6 (by simp),List.foldl_cons];simp only[evz,hlt,jaa hi,jkM,h2,e3,r1,h5,this]
  .have:=ih R (by omega) hz;have hk0:¬((k:Nat):Int)<0:=by omega
   rw[h1,ko (by simp)];simp only[evz,hlt,jaa hi,h2,hk0,h5,this]
 have k0:=upto (P:=λi=>∀R:jem,R.length<=i->(∀q∈R,Tz q.2)->jr3 (vi (i:Nat)) (sbs s) (sbs u) [] (R.map bc)=some (sb ((u.filter λq=>(look s q.1).isNone).foldl (λs p=>jjN s p.1 p.2) (((s.drop i).map λq=>(q.1,sub u q.2)).foldl (λs p=>jjN s p.1 p.2) R)),[])) (n:=s.length) ?_ ?_ 0 (Nat.zero_le _) [] (Nat.zero_le _) (λq h=>by cases h)
 .simp only[Int.natCast_zero,List.map_nil,List.drop_zero]at k0;rw[jIb];simp only[evz,k0];rw[<-List.foldl_append];rfl
 .intro R hR hz;have:=k1 R (by omega) hz;simp only[Int.natCast_zero,List.drop_zero]at this;rw[jz8,List.drop_length];simp only[evz,this];rfl
 .intro i hi ih R hR hz;have hlt:(i:Int)<((s.length:Nat):Int):=by omega
  have h5:ck ((i:Int)+1)=some (vi ((i+1:Nat):Int)):=jeY (by omega) (by omega);have hm:=(jhl hs).2 _ (jcF hi);have ht:Tz (sub u s[i].2):=AxT.sub_tz hu (Or.inl (jii hs _ (jcF hi))) (by have:=jjo hs _ (jcF hi);omega);have e2:=jia u (jhl hu).sz s[i].2 hm.2;have e3:=jxd R (by omega) s[i].1 (sub u s[i].2) ht;have:=ih (jjN R s[i].1 (sub u s[i].2)) (by have:=jui R s[i].1 (sub u s[i].2);omega) λq hq=>(juj hq).elim (hz q) λe=>by rw[e];exact ht
  rw[jz8,jdb hi,j5,List.foldl_cons];simp only[evz,hlt,jaa hi,jkM,e2,e3,r1,h5,this]
theorem jts(s u:jem)(hs:je0 s=true)(hu:SzB u):G 162 [sb s,sb u]=jhB (if je0 u && je0 (jg2 s u)then some (jg2 s u)else none):=by
 have e1:=jlT s (jhl hs);have e2:=jlT u hu;rw[hs]at e1;rw[jHK];cases hv:je0 u<;>rw[hv]at e2
 .rw [Bool.false_and,ko Bool.false_ne_true];simp only[evz,e1,e2];rfl
 .have e3:=jsq s u hs hv;have e4:=jlT (jg2 s u) (jwD hs hv);rw[Bool.true_and];cases hc:je0 (jg2 s u)<;>rw[hc]at e4
  .rw [ko Bool.false_ne_true];simp only[evz,e1,e2,e3,e4];rfl
  .rw [jc6 rfl];simp only[evz,e1,e2,e3,e4];rfl
theorem jCv(a x0 x1 x2 x3 x4:A)(us:Xg)(l:Xd):hR 2 (a,x0::x1::x2::x3::x4::tms us::l) 5=some (us.map jdd):=by simp[hR,tms]
def AD(code:Xi)(q:Nat)(a:Int)(o:Xe):Prop:=∃a' s' t,a<=a'/\a'<=a+(q:Nat)/\(Bx t/\nodes t<=15/\nmT t=true)/\o=some (.top,[bts code,vi a',vu s',sv (T.name t),tms (T.args t)])
def LV(l:Lt):Prop:=Bx l.2/\nodes l.2<=15/\nmT l.2=true
def LtD(code:Xi)(q:Nat)(a:Int)(o:Xe):Prop:=∃a' s' l,a<=a'/\a'<=a+(q:Nat)/\LV l/\o=some (.top,[bts code,vi a',vu s',vb (Prod.fst l),sv (T.name (Prod.snd l)),tms (T.args (Prod.snd l))])
theorem GT.two{n:Xb}(hn:n=[61]\/jhu n=true){u v:T}(hu:GT 7 u)(hv:GT 7 v):Bx (.mk n [u,v])/\nodes (.mk n [u,v])<=15/\nmT (.mk n [u,v])=true:=by
 have h1:=hu.2.1;have h2:=hv.2.1;have hk:∀x ∈ [u,v],okT x=true:=λx hx=>by
  simp only[yN,jby,or_false]at hx;rcases hx with rfl|rfl
  .exact hu.1
  .exact hv.1
 have hnm:jkl n=true:=by
  rcases hn with rfl|hn
  .decide
  .unfold jkl;rw[jqg hn];rfl
 refine⟨?_,by rw[jfj];show 1+jdi [u,v]<=15;simp only[jdi];omega,nm2 hnm hu.nm hv.nm⟩
 rcases hn with hn|hn
 .exact Or.inl ⟨hn,rfl,hk⟩
 .refine Or.inr ⟨hn,?_⟩;have hn':jdc n=false:=jqg hn;rw[jhp];show(if jdc n then _ else jhu n && (decide ([u,v].length<=4) && jm6 [u,v]))=true;rw[hn',ko Bool.false_ne_true,hn,jiu,jE.2 hk];rfl
theorem GT.one{n:Xb}(hn:jhu n=true){u:T}(hu:GT 7 u):Bx (.mk n [u])/\nodes (.mk n [u])<=15/\nmT (.mk n [u])=true:=by
 have h1:=hu.2.1;have hk:∀x ∈ [u],okT x=true:=λx hx=>by
  simp only[yN,jby,or_false]at hx;rw[hx];exact hu.1
 refine⟨Or.inr ⟨hn,?_⟩,by rw[jfj];show 1+jdi [u]<=15;simp only[jdi];omega,nm1 (by unfold jkl;rw[jqg hn];rfl) hu.nm⟩
 have hn':jdc n=false:=jqg hn;rw[jhp];show(if jdc n then _ else jhu n && (decide ([u].length<=4) && jm6 [u]))=true;rw[hn',ko Bool.false_ne_true,hn,jiu,jE.2 hk];rfl
theorem LV.tsz{l:Lt}(h:LV l):tsz l.2<=150:=by have:=h.1.tsz;have:=h.2;omega
theorem LV.tz{l:Lt}(h:LV l):Tz l.2:=by have:=h.tsz;unfold Tz;omega
section
variable{code:Xi}(hb:By code)
include hb
theorem jnh(a s:Int)(h0:0<=a)(h1:a<=999996000):GD code 7 14 a (jkb (bts code) (vi a) (vu s)):=by
 obtain⟨a1,s1,x,q1,q2,x0,x1,e1⟩:=jg9 hb 3 (by decide) (by decide) a s h0 (by omega);have c1:ck (1+x)=some (vi (1+x)):=jeY (by omega) (by omega);have key:GD code 7 13 a1 (jiS (vi (1+x)) (bts code) (vi a1) (vu s1)):=by
  by_cases y0:x=0
  .subst y0;obtain⟨a2,s2,t,r1,r2,r3,e⟩:=jqR hb (1+0) (by decide) a1 s1 (by omega) (by omega);exact⟨a2,s2,t,r1,by omega,r3.le (by decide),e⟩
  by_cases y1:x=1
  .subst y1;obtain⟨a2,s2,t,r1,r2,r3,e⟩:=jjq hb a1 s1 (by omega) (by omega);exact⟨a2,s2,t,r1,by omega,r3.le (by decide),e⟩
  .have:x=2:=by omega
   subst this;exact jqS hb a1 s1 (by omega) (by omega)
 obtain⟨a2,s2,t,r1,r2,r3,e2⟩:=key;refine⟨a2,s2,t,by omega,by omega,r3,?_⟩;rw[jDi];simp only[evz,e1,c1,e2,List.getElem?_cons_zero,List.getElem?_cons_succ,jhF]
theorem jy1(a s:Int)(h0:0<=a)(h1:a<=999990000):AD code 40 a (jyO (bts code) (vi a) (vu s)):=by
 obtain⟨a1,s1,x,q1,q2,x0,x1,e1⟩:=jg9 hb 8 (by decide) (by decide) a s h0 (by omega);obtain⟨a2,s2,t2,r1,r2,r3,e2⟩:=jnh hb a1 s1 (by omega) (by omega);obtain⟨a3,s3,t3,u1,u2,u3,e3⟩:=jnh hb a2 s2 (by omega) (by omega);obtain⟨a4,s4,t4,v1,v2,v3,e4⟩:=jjq hb a1 s1 (by omega) (by omega);obtain⟨a5,s5,t5,w1,w2,w3,e5⟩:=jjq hb a4 s4 (by omega) (by omega);have v3:=v3.le (N:=7) (by decide);have w3:=w3.le (N:=7) (by decide);rw[jFP];by_cases y0:x=0
 .subst y0;refine⟨a3,s3,.mk [61] [t2,t3],by omega,by omega,GT.two (Or.inl rfl) r3 u3,?_⟩;simp only[evz,e1,e2,e3,List.getElem?_cons_zero,List.getElem?_cons_succ,jhF];rw[<-juG];rfl
 by_cases y1:x=1
 .subst y1;refine⟨a3,s3,.mk [61] [t2,t3],by omega,by omega,GT.two (Or.inl rfl) r3 u3,?_⟩;simp only[evz,e1,e2,e3,List.getElem?_cons_zero,List.getElem?_cons_succ,jhF];rw[<-juG];rfl
 by_cases y2:x=2
 .subst y2;refine⟨a1,s1,.mk [114] [],by omega,by omega,⟨Or.inr ⟨by decide,by decide⟩,by decide,by decide⟩,?_⟩;simp only[evz,e1,List.getElem?_cons_zero,List.getElem?_cons_succ,jhF];rfl
 by_cases y3:x=3
 .subst y3;refine⟨a5,s5,.mk [113] [t4,t5],by omega,by omega,GT.two (Or.inr (by decide)) v3 w3,?_⟩;simp only[evz,e1,e4,e5,List.getElem?_cons_zero,List.getElem?_cons_succ,jhF];rw[<-juG];rfl
 by_cases y4:x=4
 .subst y4;refine⟨a5,s5,.mk [113] [t4,t5],by omega,by omega,GT.two (Or.inr (by decide)) v3 w3,?_⟩;simp only[evz,e1,e4,e5,List.getElem?_cons_zero,List.getElem?_cons_succ,jhF];rw[<-juG];rfl
 .refine ⟨a4,s4,.mk [112] [t4],by omega,by omega,GT.one (by decide) v3,?_⟩;simp only[evz,e1,y0,y1,y2,y3,y4,e4,List.getElem?_cons_zero,List.getElem?_cons_succ,jhF];rw[<-jC4];rfl
theorem jpL(a s:Int)(h0:0<=a)(h1:a<=999980000):LtD code 41 a (jv3 (bts code) (vi a) (vu s)):=by
 obtain⟨a1,s1,b,q1,q2,e1⟩:=jhV hb 2 (by decide) (by decide) a s h0 (by omega);obtain⟨a2,s2,t,r1,r2,r3,e2⟩:=jy1 hb a1 s1 (by omega) (by omega);refine⟨a2,s2,(b,t),by omega,by omega,r3,?_⟩;rw[jFB];simp only[evz,e1,e2,List.getElem?_cons_zero,List.getElem?_cons_succ,jhF]
end
theorem jkx(ls:List Lt)(l:Lt):jgo (ls.map ltc) [ltc l]=(ls++[l]).map ltc:=by rw[jv];rfl
def LsD(code:Xi)(m q:Nat)(a:Int)(o:Xe):Prop:=∃a' s' ls,a<=a'/\a'<=a+(q:Nat)/\List.length ls<=m/\(∀l∈ls,LV l)/\o=some (.top,[bts code,vi a',vu s',.sl 3 (List.map ltc ls)])
section
variable{code:Xi}(hb:By code)
include hb
theorem jxX:∀(k:Nat)(ls:List Lt),ls.length+k<=10->(∀l∈ls,LV l)-> ∀a s:Int,0<=a->a<=999970000-41*(k:Nat)->LsD code (ls.length+k+1) (41*k+2) a (jlG (vi (k:Nat)) (bts code) (vi a) (vu s) (ls.map ltc)):=by
 intro k;induction k with
 |zero=>
  intro ls hl hls a s h0 h1;have hgt:¬(0:Int)<((0:Nat):Int):=by decide
  by_cases hp:0<ls.length
  .have hp':(0:Int)<((ls.length:Nat):Int):=by omega
   obtain⟨a1,s1,b,q1,q2,e1⟩:=jhV hb 8 (by decide) (by decide) a s h0 (by omega);cases b with
   |false=>
    refine⟨a1,s1,ls,q1,by omega,by omega,hls,?_⟩;rw[joL];simp only[evz,hgt,hp',e1,List.getElem?_cons_zero,List.getElem?_cons_succ]
   |true=>
    obtain⟨a2,s2,x,r1,r2,x0,x1,e2⟩:=jg9 hb ((ls.length:Nat):Int) (by omega) (by omega) a1 s1 (by omega) (by omega);obtain⟨i,rfl⟩:∃i:Nat,x=(i:Nat):=⟨x.toNat,by omega⟩;have hi:i<ls.length:=by omega
    have i1:pIx ls.length (vi ((i:Nat):Int))=some i:=jg7 hi;have i2:=jnd hi;have hv:=hls _ (jcF hi);generalize ls[i]=y at i2 hv;have o1:=jkL y.2 (by have:=hv.tsz;omega);have o1:G 42 [.agg [sv y.2.name,tms y.2.args]]=some (.agg [sv y.2.name,tms y.2.args],[]):=o1;have f1:jcK (ls.length+1) 48=true:=jjg (by omega);refine⟨a2,s2,ls++[(!y.1,y.2)],by omega,by omega,by rw[yM,List.length_singleton];omega,λl h=>?_,?_⟩
    .rcases Yo.1 h with h|h
     .exact hls l h
     .rw [jU.1 h];exact hv
    rw[<-jkx];rw[joL];have i2:jeb (ls.map ltc) i 0 3=some (.agg [vb y.1,sv y.2.name,tms y.2.args]):=i2;have rl:ja9 (ls.map ltc)=ls.length:=by unfold ja9;exact jbw ..
    simp only[evz,hgt,hp',e1,e2,i1,i2,o1,List.getElem?_cons_zero,List.getElem?_cons_succ];generalize hB:JY _ _ _=B;have hB':B=some (.agg [vb (!y.1),sv y.2.name,tms y.2.args]):=by rw[<-hB];kernel_rfl
    rw[hB'];simp only[evz,f1]
  .have hp':¬(0:Int)<((ls.length:Nat):Int):=by omega
   refine⟨a,s,ls,by omega,by omega,by omega,hls,?_⟩;rw[joL];simp only[evz,hgt,hp',List.getElem?_cons_zero,List.getElem?_cons_succ]
 |succ k ih=>
  intro ls hl hls a s h0 h1;have hgt:(0:Int)<((k+1:Nat):Int):=by omega
  have c1:ck (((k+1:Nat):Int)-1)=some (vi (k:Nat)):=by rw[show((k+1:Nat):Int)-1=(k:Nat) by omega];exact jeY (by omega) (by omega)
  obtain⟨a1,s1,l,q1,q2,hv,e1⟩:=jpL hb a s h0 (by omega);have f1:jcK (ls.length+1) 48=true:=jjg (by omega);obtain⟨a2,s2,us,r1,r2,r3,r4,e2⟩:=ih (ls++[l]) (by rw[yM,List.length_singleton];omega) (λy h=>by
   rcases Yo.1 h with h|h
   .exact hls y h
   .rw [jU.1 h];exact hv) a1 s1 (by omega) (by omega)
  rw[<-jkx]at e2;rw[yM,List.length_singleton]at r3;refine⟨a2,s2,us,by omega,by omega,by omega,r4,?_⟩;rw[joL];have e2:jlG (vi (k:Nat)) (bts code) (vi a1) (vu s1) (jgo (ls.map ltc) [[vb l.1,sv l.2.name,tms l.2.args]])=_:=e2;simp only[evz,hgt,e1,f1,c1,e2,List.getElem?_cons_zero,List.getElem?_cons_succ,jCv]
theorem jjX(m:Nat)(hm:m<=9)(a s:Int)(h0:0<=a)(h1:a<=999960000):LsD code (m+1) 500 a (jl0 (vi (m:Nat)) (bts code) (vi a) (vu s)):=by
 have c1:ck (((m:Nat):Int)+1)=some (vi ((m:Nat)+1)):=jeY (by omega) (by omega);obtain⟨a1,s1,x,q1,q2,x0,x1,e1⟩:=jg9 hb (((m:Nat):Int)+1) (by omega) (by omega) a s h0 (by omega);obtain⟨k,rfl⟩:∃k:Nat,x=(k:Nat):=⟨x.toNat,by omega⟩;obtain⟨a2,s2,ls,r1,r2,r3,r4,e2⟩:=jxX hb k [] (by rw[jgS];omega) (λl h=>by cases h) a1 s1 (by omega) (by omega);rw[jgS]at r3;refine⟨a2,s2,ls,by omega,by omega,by omega,r4,?_⟩;have e2:jlG (vi (k:Nat)) (bts code) (vi a1) (vu s1) []=_:=e2;rw[jFs];simp only[evz,c1,e1,e2,List.getElem?_cons_zero,List.getElem?_cons_succ]
end
inductive Hgt(s:jem):Nat->Eqs->Prop
 |nil (r:Nat):Hgt s r []
 |blk (r τ δ:Nat) (b es:Eqs):9*τ+(8-δ)<r->τ<=s.length+1->δ<=8->b.length<=4->(τ=s.length+1-> ∀p∈b,sub s p.1=p.1/\sub s p.2=p.2/\dep p.1<=δ/\dep p.2<=δ)->Hgt s (9*τ+(8-δ)) es->Hgt s r (b++es)
theorem Hgt.len{s:jem}{r:Nat}{es:Eqs}(h:Hgt s r es):es.length<=4*r:=by
 induction h with
 |nil r=>exact Nat.zero_le _
 |blk r τ δ b es h1 _ _ h4 _ _ ih=>rw[yM];omega
theorem Hgt.mono{s:jem}{r r':Nat}{es:Eqs}(h:Hgt s r es)(hr:r<=r'):Hgt s r' es:=by
 induction h with
 |nil=>exact Hgt.nil _
 |blk r τ δ b es h1 h2 h3 h4 h5 h6 _=>exact Hgt.blk r' τ δ b es (by omega) h2 h3 h4 h5 h6
theorem Hgt.grow{s s':jem}(hs:s.length<s'.length){r:Nat}{es:Eqs}(h:Hgt s r es):Hgt s' r es:=by
 induction h with
 |nil r=>exact Hgt.nil _
 |blk r τ δ b es h1 h2 h3 h4 h5 _ ih=>exact Hgt.blk r τ δ b es h1 (by omega) h3 h4 (λh=>by omega) ih
theorem Hgt.pop{s:jem}{r:Nat}{es:Eqs}(h:Hgt s r es):∀{p:T×T}{rest:Eqs},es=p::rest-> ∃τ δ,9*τ+(8-δ)<r/\τ<=s.length+1/\δ<=8/\(τ=s.length+1->sub s p.1=p.1/\sub s p.2=p.2/\dep p.1<=δ/\dep p.2<=δ)/\Hgt s (9*τ+(8-δ)+1) rest:=by
 induction h with
 |nil r=>intro p rest h;cases h
 |blk r τ δ b es h1 h2 h3 h4 h5 h6 ih=>
  intro p rest he;cases b with
  |nil=>
   obtain⟨τ',δ',g1,g2⟩:=ih he;exact⟨τ',δ',by omega,g2⟩
  |cons q b=>
   rw[jG,j8]at he;obtain⟨rfl,rfl⟩:=he;rw[yv]at h4;exact⟨τ,δ,h1,h2,h3,λh=>h5 h q (by simp),Hgt.blk _ τ δ b es (by omega) h2 h3 (by omega) (λh x hx=>h5 h x (by simp[hx])) h6⟩
theorem jm7{t:T}(h:AxT t):t.args.length<=4:=by
 rcases h with h|h
 .cases hv:jdc t.name with
  |true=>rw[jjK h hv];simp
  |false=>
   rw[jhp,hv,ko Bool.false_ne_true,Yn,Yn,Q5]at h;exact h.2.1
 .omega
theorem jhZ{s:jem}{l r:T}{rest:Eqs}(h:ji9 s ((l,r)::rest))(hg:Hgt s 126 ((l,r)::rest)){s':jem}{es:Eqs}(hst:jhH s l r rest=some (s',es)):Hgt s' 126 es:=by
 obtain⟨τ,δ,g1,g2,g3,g4,g5⟩:=hg.pop rfl;have hrest:Hgt s 126 rest:=g5.mono (by omega);have hl:=(jfR h.1).1;obtain⟨_,hor⟩:=jho h hst;by_cases hlen:s'.length=s.length+1
 .have hst':=hst;unfold jhH at hst;split at hst
  .cases hst
  split at hst
  .cases hst;omega
  split at hst
  .split at hst
   .cases hst
   .cases hst;exact hrest.grow (by omega)
  .split at hst
   .cases hst;omega
   .cases hst
 .have hs:s'=s:=hor.elim (λh=>h.1) λh=>(hlen h).elim;subst hs;obtain⟨hv,hi,he⟩:=h;obtain⟨el,er⟩:=he (l,r) (by simp);unfold jhH at hst;split at hst
  .cases hst
  rename_i hsm;split at hst
  .cases hst;exact hrest
  split at hst
  .rename_i hvar;split at hst
   .cases hst
   .rename_i hno;simp only[jp,Yl]at hst;rw[<-hst.2];exact hrest
  rename_i hnv;split at hst;rotate_left
  .cases hst
  simp only[jp,Yl,true_and]at hst;subst hst;have sm:∀t,¬jfs t=false->dep t<=8:=λt ht=>by
   have:jfs t=true:=by cases h:jfs t with|true=>rfl|false=>exact(ht h).elim
   simp only[jfs,Yn,Q5]at this;exact this.2
  have d1:=sm (sub s' l) λh=>hsm (Or.inl h);have d2:=sm (sub s' r) λh=>hsm (Or.inr h);have v1:jdc (sub s' l).name=false:=by
   cases h:jdc (sub s' l).name with
   |false=>rfl
   |true=>exact absurd (Or.inl h) hnv
  have v2:jdc (sub s' r).name=false:=by
   cases h:jdc (sub s' r).name with
   |false=>rfl
   |true=>exact absurd (Or.inr h) hnv
  have xl:AxT (sub s' l):=AxT.sub hv el.1;have xr:AxT (sub s' r):=AxT.sub hv er.1;have arg:∀w:T,AxT (sub s' w)->jdc (sub s' w).name=false->IdS s'-> ∀u∈(sub s' w).args,sub s' u=u/\dep u+1<=dep (sub s' w):=λw xw vw hi u hu=>by
   refine⟨jsK u (xw.elim (λh=>jgW h u hu) λh=>h.2.2 u hu) λx hx=>jjL hi w (by rw[vsf vw,jhG];exact⟨u,hu,hx⟩),?_⟩
   have:=jze hu;rw[jjz (sub s' w)];omega
  have p1:=jjz (sub s' l);have p2:=jjz (sub s' r);refine Hgt.blk 126 (s'.length+1) (max (dep (sub s' l)) (dep (sub s' r))-1) _ rest (by omega) (jl _) (by omega) ?_ (λ_ p hp=>?_) (g5.mono ?_)
  .rw [List.length_zip];have:=jm7 xl;omega
  .have hm:=List.of_mem_zip (a:=p.1) (b:=p.2) hp;have q1:=arg l xl v1 hi p.1 hm.1;have q2:=arg r xr v2 hi p.2 hm.2;exact⟨q1.1,q2.1,by omega,by omega⟩
  .by_cases hτ:τ=s'.length+1
   .obtain ⟨w1,w2,w3,w4⟩:=g4 hτ;have w3:dep l<=δ:=w3;have w4:dep r<=δ:=w4;have w1:dep (sub s' l)=dep l:=congrArg dep w1;have w2:dep (sub s' r)=dep r:=congrArg dep w2;omega
   .omega
theorem jF7(a b:T):Hgt [] 126 [(a,b)]:=Hgt.blk 126 0 8 [(a,b)] [] (by omega) (by omega) (by omega) (by simp) (λh=>by simp at h) (Hgt.nil _)
theorem joq{n:Nat}(h:n<=100000):jcK n 80=true:=by
 unfold jcK;exact decide_eq_true ⟨by omega,by omega⟩
theorem jpd{x y:T}(h:jdc x.name=true\/jdc y.name=true):jdc (jep x y).1=true/\(((jep x y).1=y.name/\(jep x y).2=x)\/((jep x y).1=x.name/\(jep x y).2=y)):=by
 unfold jep;split
 .rename_i hc;refine⟨?_,Or.inl ⟨rfl,rfl⟩⟩;rcases hc with hc|hc
  .rcases h with h|h
   .rw [hc]at h;cases h
   .exact h
  .exact hc.1
 .rename_i hc;refine⟨?_,Or.inr ⟨rfl,rfl⟩⟩;rcases Bool.eq_false_or_eq_true (jdc x.name)with h2|h2
  .exact h2
  .exact absurd (Or.inl h2) hc
theorem jx2{p:Xb×T}(hn:jdc p.1=true):(!decide ((0:Int)<(cnt p.1 p.2:Nat)) && je0 [p])=(!decide (p.1∈jgi p.2) && je0 [p]):=by
 cases hv:je0 [p]with
 |false=>rw[Bool.and_false,Bool.and_false]
 |true=>
  have hk:okT p.2=true:=jii hv p (by simp);have:=jBq hn p.2 hk;rw[Bool.and_true,Bool.and_true];congr 1;exact decide_eq_decide.2 (by rw[this];omega)
theorem jAz{p:Xb×T}(hn:jdc p.1=true)(hz:Tz p.2):SzB [p]:=⟨by simp,λq hq=>by
 rw[jU.1 hq];exact⟨by have:=jnj hn;omega,hz⟩⟩
theorem jmJ(x y:T)(hx:AxT x)(hy:AxT y)(nx:nodes x<=3000)(ny:nodes y<=3000)(h:jdc x.name=true\/jdc y.name=true):G 99 [.agg [sv x.name,tms x.args,sv y.name,tms y.args]]=some (.tup [sb [jep x y],vb (!decide ((jep x y).1∈jgi (jep x y).2) && je0 [jep x y])],[]):=by
 have e1:=jh1 x (hx.imp id λh=>h.1);have e2:=jh1 y (hy.imp id λh=>h.1);obtain⟨hv,hor⟩:=jpd h;have hz:Tz (jep x y).2:=by
  rcases hor with h|h
  .rw [h.2];exact hx.tz (by omega)
  .rw [h.2];exact hy.tz (by omega)
 have hn:nodes (jep x y).2<=3000:=by
  rcases hor with h|h
  .rw [h.2];exact nx
  .rw [h.2];exact ny
 have e3:=jiH (jep x y).1 (jep x y).2 hz.wf (by omega);have e4:G 138 [sv (jep x y).1,tm (jep x y).2]=some (vb (decide ((0:Int)<(cnt (jep x y).1 (jep x y).2:Nat))),[]):=by
  rw[jHt];simp only[evz,e3]
 have e5:=jru [jep x y] (jAz hv hz);have e5:G 139 [.agg [.sl 3 [[sv (jep x y).1,sv (jep x y).2.name,tms (jep x y).2.args]]]]=some (vb (je0 [jep x y]),[]):=e5;rw[<-jx2 hv,g99];generalize hb:je0 [jep x y]=vv at *;generalize ho:decide ((0:Int)<(cnt (jep x y).1 (jep x y).2:Nat))=oo at *;have hsb:sb [jep x y] = .agg [.sl 3 [[sv (jep x y).1,sv (jep x y).2.name,tms (jep x y).2.args]]]:=rfl;rw[hsb];have e5:(G 139 [.agg [.sl 3 [[sv (jep x y).1,sv (jep x y).2.name,tms (jep x y).2.args]]]]).bind (fin true)=some (vb vv):=by rw[e5];rfl
 cases hx1:jdc x.name<;>rw[hx1]at e1
 .have hbd:jep x y=(y.name,x):=jc6 (Or.inl hx1);rw[hbd]at e4 e5⊢;have e4:G 138 [sv y.name,tm x]=some (vb oo,[]):=e4;have e5:(G 139 [.agg [.sl 3 [[sv y.name,sv x.name,tms x.args]]]]).bind (fin true)=some (vb vv):=e5;cases oo
  .simp only[evz,e1,e4,e5,Bool.true_and]
  .simp only[evz,e1,e4,Bool.false_and]
 .cases hy1:jdc y.name<;>rw[hy1]at e2
  .have hbd:jep x y=(x.name,y):=ko (by rw[hx1,hy1];simp)
   rw[hbd]at e4 e5⊢;have e4:G 138 [sv x.name,tm y]=some (vb oo,[]):=e4;have e5:(G 139 [.agg [.sl 3 [[sv x.name,sv y.name,tms y.args]]]]).bind (fin true)=some (vb vv):=e5;cases oo
   .simp only[evz,e1,e2,e4,e5,Bool.true_and]
   .simp only[evz,e1,e2,e4,Bool.false_and]
  .have e6:=jnM false y.name x.name;cases hc:sLt x.name y.name<;>rw[hc]at e6
   .have hbd:jep x y=(x.name,y):=ko (by rw[hx1,hy1,hc];simp)
    rw[hbd]at e4 e5⊢;have e4:G 138 [sv x.name,tm y]=some (vb oo,[]):=e4;have e5:(G 139 [.agg [.sl 3 [[sv x.name,sv y.name,tms y.args]]]]).bind (fin true)=some (vb vv):=e5;cases oo
    .simp only[evz,e1,e2,e6,e4,e5,Bool.true_and]
    .simp only[evz,e1,e2,e6,e4,Bool.false_and]
   .have hbd:jep x y=(y.name,x):=jc6 (Or.inr ⟨hy1,hc⟩);rw[hbd]at e4 e5⊢;have e4:G 138 [sv y.name,tm x]=some (vb oo,[]):=e4;have e5:(G 139 [.agg [.sl 3 [[sv y.name,sv x.name,tms x.args]]]]).bind (fin true)=some (vb vv):=e5;cases oo
    .simp only[evz,e1,e2,e6,e4,e5,Bool.true_and]
    .simp only[evz,e1,e2,e6,e4,Bool.false_and]
theorem jq0(s:jem)(hs:je0 s=true)(n:Xb)(t:T)(hn:jdc n=true)(ht:Tz t)(hk:n∈jgi t\/t.name≠n):∃z:jem,G 114 [sb s,sv n,tm t]=some (if !decide (n∈jgi t) && (je0 [(n,t)] && je0 (jg2 s [(n,t)]))then .tup [sb (jg2 s [(n,t)]),vb true]else .tup [sb z,vb false],[]):=by
 obtain⟨r,e1,hr,hl⟩:=jqY t ht.wf (by have:=jhM t;have:=ht;unfold Tz at this;omega)
 have e2:=jsm r n hl;have hc:r.contains n=decide (n∈jgi t):=by
  cases h:r.contains n with
  |true=>rw[List.contains_iff_mem,hr]at h;exact(decide_eq_true h).symm
  |false=>
   refine(decide_eq_false λh2=>?_).symm;rw[<-hr,<-List.contains_iff_mem,h]at h2;cases h2
 rw[hc]at e2;rw[jHa];by_cases hm:n∈jgi t
 .refine ⟨s,?_⟩;rw[decide_eq_true hm]at e2;rw[decide_eq_true hm,Bool.not_true,Bool.false_and,ko Bool.false_ne_true];simp only[evz,e1,e2]
 .refine ⟨[],?_⟩;have hne:¬t.name=n:=hk.resolve_left hm;rw[decide_eq_false hm]at e2;rw[decide_eq_false hm,Bool.not_false,Bool.true_and];have e3:jyK (sv n) (sv t.name) (tms t.args) []=some (.top,[.sl 3 [[sv n,sv t.name,tms t.args]]]):=by
   have k1:pB (jbR []) (jfy [] 0) (some (vi 0))=some 0:=rfl;have k2:pB (jbR []) (jfy [] 0) none=some 0:=rfl;have k3:pB 0 0 (some (vi 0))=some 0:=rfl;have k4:jgq [] 0 (jgk 0 0)=[]:=rfl;have k5:jgo (jgo [] [[sv n,sv t.name,tms t.args]]) []=[[sv n,sv t.name,tms t.args]]:=rfl;have f0:jcK 0 56=true:=jw8 (by omega);have f1:jcK 1 56=true:=jw8 (by omega);have f2:(jgo [] [[sv n,sv t.name,tms t.args]]).length=1:=rfl;have eo:=jkL t ht;have h00:¬((0:Int)<((0:Nat):Int)):=by omega
   rw[jFC];simp only[evz,hne];rw[jCD];simp only[evz,h00,k1,k2,k3,k4,f0,f1,eo];generalize hB:JY _ _ _=B;have hB':B=some (.agg [sv n,sv t.name,tms t.args]):=by rw[<-hB];kernel_rfl
   rw[hB'];simp only[evz,f1,k5,f2,z7]
  have e4:=jts s [(n,t)] hs (jAz hn ht);have r1:hR 3 (A.top,[.sl 3 [[sv n,sv t.name,tms t.args]]]) 0=some [[sv n,sv t.name,tms t.args]]:=rfl;have e4:G 162 [sb s,.agg [.sl 3 [[sv n,sv t.name,tms t.args]]]]=_:=e4;cases hb:je0 [(n,t)] && je0 (jg2 s [(n,t)])
  .rw [hb,ko Bool.false_ne_true]at e4;have e4:G 162 [sb s,.agg [.sl 3 [[sv n,sv t.name,tms t.args]]]]=some (.tup [.agg [.sl 3 []],vb false],[]):=e4;rw[ko Bool.false_ne_true];simp only[evz,e1,e2,e3,r1,e4];rfl
  .rw [hb,jc6 rfl]at e4;have e4:G 162 [sb s,.agg [.sl 3 [[sv n,sv t.name,tms t.args]]]]=some (.tup [sb (jg2 s [(n,t)]),vb true],[]):=e4;rw[jc6 rfl];simp only[evz,e1,e2,e3,r1,e4]
abbrev ec(p:T×T):Xd:=[sv p.1.name,tms p.1.args,sv p.2.name,tms p.2.args]
theorem jlx{W:Eqs}{i:Nat}{p:T×T}(h:W[i]? = some p):jeb (W.map ec) i 0 2=some (tm p.1)/\jeb (W.map ec) i 2 2=some (tm p.2):=by
 unfold jeb;rw[Kw,h];exact⟨rfl,rfl⟩
theorem jiE{W rest:Eqs}{p:T×T}{off:Nat}(h:W.drop off=p::rest):W[off]? = some p/\W.drop (off+1)=rest/\W.length=off+rest.length+1:=by
 have h1:=congrArg (λl=>l[0]?) h;simp only[jR,z7,List.getElem?_cons_zero]at h1;have h2:=congrArg (List.drop 1) h;rw[List.drop_drop]at h2;have h3:=congrArg List.length h;rw[List.length_drop,yv]at h3;exact⟨h1,h2,by omega⟩
theorem jnm{us vs:Xg}{i:Nat}(h1:i<us.length)(h2:i<vs.length):jgo (((us.zip vs).take i).map ec) [[sv us[i].name,tms us[i].args,sv vs[i].name,tms vs[i].args]]=((us.zip vs).take (i+1)).map ec:=by
 have hl:i<(us.zip vs).length:=by rw[List.length_zip];omega
 rw[List.take_add_one,jz hl,jv,List.getElem_zip];rfl
theorem jlC{W:Eqs}(off:Nat):jgq (W.map ec) off (W.length-off)=(W.drop off).map ec:=by
 rw[jnc,<-List.map_drop,jT (by rw[jbw,List.length_drop];omega)]
theorem jlP{s:jem}{l r:T}{rest:Eqs}(h1:jfs (sub s l)=true)(h2:jfs (sub s r)=true)(h3:dq (sub s l) (sub s r)=true):jhH s l r rest=some (s,rest):=by
 unfold jhH;rw[ko (by rw[h1,h2];simp),jc6 h3]
theorem jlN{s:jem}{l r:T}{rest:Eqs}(h1:jfs (sub s l)=true)(h2:jfs (sub s r)=true)(h3:dq (sub s l) (sub s r)=false)(h4:jdc (sub s l).name=true\/jdc (sub s r).name=true):jhH s l r rest=if(!decide ((jep (sub s l) (sub s r)).1∈jgi (jep (sub s l) (sub s r)).2) && je0 [jep (sub s l) (sub s r)]) && je0 (jg2 s [jep (sub s l) (sub s r)])then some (jg2 s [jep (sub s l) (sub s r)],rest)else none:=by
 unfold jhH;rw[ko (by rw[h1,h2];simp),ko (by rw[h3];simp),jc6 h4];generalize jep (sub s l) (sub s r)=p;by_cases c1:p.1∈jgi p.2
 .rw [jc6 (Or.inl c1),decide_eq_true c1];rfl
 .rw [decide_eq_false c1];cases c2:je0 [p]
  .rw [jc6 (Or.inr (Or.inl rfl))];rfl
  .cases c3:je0 (jg2 s [p])
   .rw [jc6 (Or.inr (Or.inr rfl))];rfl
   .rw [ko (by simp[c1])];rfl
theorem jlO{s:jem}{l r:T}{rest:Eqs}(h1:jfs (sub s l)=true)(h2:jfs (sub s r)=true)(h3:dq (sub s l) (sub s r)=false)(h4:jdc (sub s l).name=false)(h5:jdc (sub s r).name=false):jhH s l r rest=if(sub s l).name=(sub s r).name/\(sub s l).args.length=(sub s r).args.length then some (s,(sub s l).args.zip (sub s r).args++rest)else none:=by
 unfold jhH;rw[ko (by rw[h1,h2];simp),ko (by rw[h3];simp),ko (by rw[h4,h5];simp)]
theorem jgH{k:Nat}{s:jem}{l r:T}{rest:Eqs}{res:Option jem}(hst:jhH s l r rest=none)(h:jgX (k+1) s ((l,r)::rest)=some res):res=none:=by
 rw[jgX,hst]at h;exact(QW h).symm
theorem jhm{k:Nat}{s:jem}{l r:T}{rest:Eqs}{res:Option jem}{q:jem×Eqs}(hst:jhH s l r rest=some q)(h:jgX (k+1) s ((l,r)::rest)=some res):jgX k q.1 q.2=some res:=by
 rw[jgX,hst]at h;exact h
theorem jkP{s:jem}{l r:T}{rest:Eqs}(h:ji9 s ((l,r)::rest)):AxT l/\AxT r/\nodes l<=31/\nodes r<=31:=by
 obtain⟨h1,h2⟩:=h.2.2 (l,r) (by simp);exact⟨h1.1,h2.1,h1.2,h2.2⟩
theorem jEG(s:jem)(W:Eqs)(off:Nat)(hW:W.length<=1000)(x y:T)(hl:x.args.length=y.args.length)(h4:x.args.length<=4) :
  jwo (nA off) (nA (W.length-off)) (tms x.args) (vi (x.args.length:Nat)) (vi 0) (sbs s) (sv y.name) (tms y.args) (W.map ec) [] []=jqE (sbs s) ((x.args.zip y.args++W.drop off).map ec) []:=by
 have h1:nOf (nA off)=off:=rfl;have h2:nOf (nA (W.length-off))=W.length-off:=rfl;have hend:jcK (((x.args.zip y.args).map ec).length+((W.drop off).map ec).length) 80=true:=by
  rw[jbw,jbw,List.length_zip,List.length_drop];exact joq (by omega)
 have hzl:((x.args.zip y.args).map ec).length=x.args.length:=by rw[jbw,List.length_zip];omega
 have happ:jgo ((x.args.zip y.args).map ec) ((W.drop off).map ec)=(x.args.zip y.args++W.drop off).map ec:=by rw[jv];rfl
 have step:∀i,(hi:i<x.args.length)->(hi2:i<y.args.length)->jgo (((x.args.zip y.args).take i).map ec) [[sv x.args[i].name,tms x.args[i].args,sv y.args[i].name,tms y.args[i].args]]=((x.args.zip y.args).take (i+1)).map ec:=λi hi hi2=>jnm hi hi2;have key:=upto (P:=λi=>jyT (nA off) (nA (W.length-off)) (tms x.args) (vi (x.args.length:Nat)) (vi (i:Nat)) (sbs s) (sv y.name) (tms y.args) (W.map ec) (((x.args.zip y.args).take i).map ec) []=jqE (sbs s) ((x.args.zip y.args++W.drop off).map ec) []) (n:=x.args.length) ?_ ?_
 .have hend2:(x.args.zip y.args).take x.args.length=x.args.zip y.args:=jT (by rw[List.length_zip];omega)
  rw[jGa];by_cases h0:0<x.args.length
  .have hi:=h0;have hi2:0<y.args.length:=by omega
   have hlt:(0:Int)<((x.args.length:Nat):Int):=by omega
   have ix:=jaa (k:=2) (f:=jdd) hi;have ix2:=jaa (k:=2) (f:=jdd) hi2;have ta:=step 0 hi hi2;simp only[List.take_zero,List.map_nil,Int.natCast_zero,jfO]at ta ix ix2;have hf:jcK 1 80=true:=joq (by omega);have hck:ck (0+1)=some (vi ((1:Nat):Int)):=jeY (n:=0+1) (by omega) (by omega);have key:=key 1 (by omega);rw[<-key];simp only[evz,hlt,ix,ix2,ja1,hf,ta,hck,h1,h2]
  .have hlt:¬(0:Int)<((x.args.length:Nat):Int):=by omega
   have he:x.args=[]:=Ym (by omega);have hz:x.args.zip y.args=[]:=by rw[he];rfl
   rw[hz]at hend happ⊢;have hend:jcK ((W.drop off).map ec).length 80=true:=by simpa using hend
   have happ:jgo [] ((W.drop off).map ec)=(W.drop off).map ec:=rfl;simp only[evz,hlt,h1,h2,jlC,zx];rw[jbw]at hend;simp only[evz,hend,happ]
 .have hend2:(x.args.zip y.args).take x.args.length=x.args.zip y.args:=jT (by rw[List.length_zip];omega)
  rw[hend2,jDF];have hlt:¬((x.args.length:Nat):Int)<((x.args.length:Nat):Int):=by omega
  rw[hzl,jbw]at hend;simp only[evz,hlt,h1,h2,jlC,happ];rw[List.length_zip,Nat.min_eq_left (by omega)];simp only[evz,hend]
 .intro i hi ih;have hi2:i<y.args.length:=by omega
  have hlt:((i:Nat):Int)<((x.args.length:Nat):Int):=by omega
  have ta:=step i hi hi2;have li:(((x.args.zip y.args).take i).map ec).length=i:=take_len (by rw[List.length_zip];omega);have hf:jcK (i+1) 80=true:=joq (by omega);have hck:ck ((i:Int)+1)=some (vi ((i+1:Nat):Int)):=jeY (by omega) (by omega);generalize ((x.args.zip y.args).take i).map ec=R at *;rw[jDF,<-ih];simp only[evz,hlt,jaa hi,jaa hi2,ja1,li,hf,ta,hck,h1,h2]
theorem jEF(W:Eqs)(off:Nat)(hW:W.length<=1000)(x y:T)(hl:x.args.length=y.args.length)(h4:x.args.length<=4) :
  jwn (nA off) (nA (W.length-off)) (tms x.args) (vi (x.args.length:Nat)) (vi 0) (sv y.name) (tms y.args) (W.map ec) [] [] []=jo9 ((x.args.zip y.args++W.drop off).map ec) [] []:=by
 have h1:nOf (nA off)=off:=rfl;have h2:nOf (nA (W.length-off))=W.length-off:=rfl;have hend:jcK (((x.args.zip y.args).map ec).length+((W.drop off).map ec).length) 80=true:=by
  rw[jbw,jbw,List.length_zip,List.length_drop];exact joq (by omega)
 have hzl:((x.args.zip y.args).map ec).length=x.args.length:=by rw[jbw,List.length_zip];omega
 have happ:jgo ((x.args.zip y.args).map ec) ((W.drop off).map ec)=(x.args.zip y.args++W.drop off).map ec:=by rw[jv];rfl
 have step:∀i,(hi:i<x.args.length)->(hi2:i<y.args.length)->jgo (((x.args.zip y.args).take i).map ec) [[sv x.args[i].name,tms x.args[i].args,sv y.args[i].name,tms y.args[i].args]]=((x.args.zip y.args).take (i+1)).map ec:=λi hi hi2=>jnm hi hi2;have key:=upto (P:=λi=>jyS (nA off) (nA (W.length-off)) (tms x.args) (vi (x.args.length:Nat)) (vi (i:Nat)) (sv y.name) (tms y.args) (W.map ec) (((x.args.zip y.args).take i).map ec) [] []=jo9 ((x.args.zip y.args++W.drop off).map ec) [] []) (n:=x.args.length) ?_ ?_
 .have hend2:(x.args.zip y.args).take x.args.length=x.args.zip y.args:=jT (by rw[List.length_zip];omega)
  rw[jF9];by_cases h0:0<x.args.length
  .have hi:=h0;have hi2:0<y.args.length:=by omega
   have hlt:(0:Int)<((x.args.length:Nat):Int):=by omega
   have ix:=jaa (k:=2) (f:=jdd) hi;have ix2:=jaa (k:=2) (f:=jdd) hi2;have ta:=step 0 hi hi2;simp only[List.take_zero,List.map_nil,Int.natCast_zero,jfO]at ta ix ix2;have hf:jcK 1 80=true:=joq (by omega);have hck:ck (0+1)=some (vi ((1:Nat):Int)):=jeY (n:=0+1) (by omega) (by omega);have key:=key 1 (by omega);rw[<-key];simp only[evz,hlt,ix,ix2,ja1,hf,ta,hck,h1,h2]
  .have hlt:¬(0:Int)<((x.args.length:Nat):Int):=by omega
   have he:x.args=[]:=Ym (by omega);have hz:x.args.zip y.args=[]:=by rw[he];rfl
   rw[hz]at hend happ⊢;have hend:jcK ((W.drop off).map ec).length 80=true:=by simpa using hend
   have happ:jgo [] ((W.drop off).map ec)=(W.drop off).map ec:=rfl;simp only[evz,hlt,h1,h2,jlC,zx];rw[jbw]at hend;simp only[evz,hend,happ]
 .have hend2:(x.args.zip y.args).take x.args.length=x.args.zip y.args:=jT (by rw[List.length_zip];omega)
  rw[hend2,jDE];have hlt:¬((x.args.length:Nat):Int)<((x.args.length:Nat):Int):=by omega
  rw[hzl,jbw]at hend;simp only[evz,hlt,h1,h2,jlC,happ];rw[List.length_zip,Nat.min_eq_left (by omega)];simp only[evz,hend]
 .intro i hi ih;have hi2:i<y.args.length:=by omega
  have hlt:((i:Nat):Int)<((x.args.length:Nat):Int):=by omega
  have ta:=step i hi hi2;have li:(((x.args.zip y.args).take i).map ec).length=i:=take_len (by rw[List.length_zip];omega);have hf:jcK (i+1) 80=true:=joq (by omega);have hck:ck ((i:Int)+1)=some (vi ((i+1:Nat):Int)):=jeY (by omega) (by omega);generalize ((x.args.zip y.args).take i).map ec=R at *;rw[jDE,<-ih];simp only[evz,hlt,jaa hi,jaa hi2,ja1,li,hf,ta,hck,h1,h2]
def US(s:jem)(es:Eqs)(o:Xe):Prop:=
 (∀(W:Eqs)(off:Nat),W.drop off=es->off<=W.length->W.length<=1000->jmE (nA off) (nA (W.length-off)) (sbs s) (W.map ec) []=o)/\jqE (sbs s) (es.map ec) []=o/\
 (s=[]->(∀(W:Eqs)(off:Nat),W.drop off=es->off<=W.length->W.length<=1000->js6 (nA off) (nA (W.length-off)) (W.map ec) [] []=o)/\jo9 (es.map ec) [] []=o)
theorem un2(k:Nat)(ih:∀(s:jem)(es:Eqs)(res:Option jem),ji9 s es->Hgt s 126 es->jgX k s es=some res->US s es (jhB res))(s:jem)(l r:T)(rest:Eqs)(hi:ji9 s ((l,r)::rest))(hg:Hgt s 126 ((l,r)::rest))(res:Option jem)(hu:jgX (k+1) s ((l,r)::rest)=some res)(W:Eqs)(off:Nat)(hW:W.drop off=(l,r)::rest)(hlen:W.length<=1000):jmE (nA off) (nA (W.length-off)) (sbs s) (W.map ec) []=jhB res:=by
 obtain⟨d1,d2,d3⟩:=jiE hW;obtain⟨r1,r2⟩:=jlx d1;obtain⟨al,ar,nl,nr⟩:=jkP hi;have hv:=hi.1;have e1:=jh7 s hv l al (by omega);have e2:=jh7 s hv r ar (by omega);have w1:nOf (nA off)=off:=rfl;have w2:nOf (nA (W.length-off))=W.length-off:=rfl;have g1:jeH .gtr false (nA (W.length-off)) (vi 0)=some (vb true):=by
  show some (vb (decide ((0:Int)<((W.length-off:Nat):Int))))=_;rw[decide_eq_true (by omega)]
 have g2:pIx (W.length-off) (vi 0)=some 0:=jg7 (i:=0) (by omega);have g3:pB (W.length-off) (jfy (W.map ec) off) none=some (W.length-off):=by
  rw[show jfy (W.map ec) off=W.length-off by rw[jhW,jbw]];exact jg6 (jl _)
 have g4:pB 0 (W.length-off) (some (vi 1))=some 1:=jhY (n:=1) (by omega);have hn:jgk (W.length-off) 1=W.length-(off+1):=by unfold jgk;omega
 rw[jAh];cases sl:jfs (sub s l)<;>rw[sl]at e1
 .have e1:G 60 [sb s,tm l]=some (.tup [.agg [sv [],.sl 2 []],vb false],[]):=e1;have hr:res=none:=jgH (by unfold jhH;rw[jc6 (Or.inl sl)]) hu;subst hr;obtain⟨q,e2⟩:∃q:T×Bool,G 60 [sb s,tm r]=some (.tup [tm q.1,vb q.2],[]):=by
   cases h:jfs (sub s r)<;>rw[h]at e2
   .exact ⟨(.mk [] [],false),e2⟩
   .exact ⟨(sub s r,true),e2⟩
  simp only[evz,w1,w2,g1,g2,g3,g4,z7,r1,r2,e1,e2];rfl
 have e1:G 60 [sb s,tm l]=some (.tup [tm (sub s l),vb true],[]):=e1;cases sr:jfs (sub s r)<;>rw[sr]at e2
 .have e2:G 60 [sb s,tm r]=some (.tup [.agg [sv [],.sl 2 []],vb false],[]):=e2;have hr:res=none:=jgH (by unfold jhH;rw[jc6 (Or.inr sr)]) hu;subst hr;simp only[evz,w1,w2,g1,g2,g3,g4,z7,r1,r2,e1,e2];rfl
 have e2:G 60 [sb s,tm r]=some (.tup [tm (sub s r),vb true],[]):=e2;have xl:AxT (sub s l):=AxT.sub hv al;have xr:AxT (sub s r):=AxT.sub hv ar;have ml:=jhc sl;have mr:=jhc sr;have tl:=xl.tz (by omega);have tr:=xr.tz (by omega);have e3:=jhE (sub s l) tl.wf (sub s r) tr.wf;have ll:=(jfR hv).1;cases hd:dq (sub s l) (sub s r)<;>rw[hd]at e3
 rotate_left
 .have hst:=jlP (rest:=rest) sl sr hd;have hnext:=ih _ _ res (jho hi hst).1 (jhZ hi hg hst) (jhm hst hu);have hnext:=hnext.1 W (off+1) d2 (by omega) hlen;simp only[evz,w1,w2,g1,g2,g3,g4,z7,r1,r2,e1,e2,e3,hn];exact hnext
 have v1:=jh1 (sub s l) (xl.imp id λh=>h.1);have v2:=jh1 (sub s r) (xr.imp id λh=>h.1);have bindC:jdc (sub s l).name=true\/jdc (sub s r).name=true->(∃q:Bool,G 99 [.agg [sv (sub s l).name,tms (sub s l).args,sv (sub s r).name,tms (sub s r).args]]=some (.tup [sb [jep (sub s l) (sub s r)],vb q],[])/\(q=false->jhB res=jhB none)/\(q=true-> ∃q2:Bool,∃u:jem,G 100 [sb s,sb [jep (sub s l) (sub s r)]]=some (.tup [sb u,vb q2],[])/\(q2=false->jhB res=jhB none)/\(q2=true->jmE (nA (off+1)) (nA (W.length-(off+1))) (sbs u) (W.map ec) []=jhB res))):=by
  intro hvar;have hst:=jlN (rest:=rest) sl sr hd hvar;refine⟨_,jmJ _ _ xl xr (by omega) (by omega) hvar,λhq=>?_,λhq=>?_⟩
  .rw [hq,Bool.false_and,ko Bool.false_ne_true]at hst;rw[jgH hst hu]
  .rw [hq,Bool.true_and]at hst;have hvp:je0 [jep (sub s l) (sub s r)]=true:=by
    rw[Yn]at hq;exact hq.2
   have ec1:=jnX s [jep (sub s l) (sub s r)] hv hvp;cases hc:je0 (jg2 s [jep (sub s l) (sub s r)])
   .rw [hc,ko Bool.false_ne_true]at hst ec1;exact⟨false,[],ec1,λ_=>by rw[jgH hst hu],λh=>by cases h⟩
   .rw [hc,jc6 rfl]at hst ec1;refine⟨true,_,ec1,(λh=>by cases h),λ_=>?_⟩;have hnext:=ih _ _ res (jho hi hst).1 (jhZ hi hg hst) (jhm hst hu);exact hnext.1 W (off+1) d2 (by omega) hlen
 have close:jdc (sub s l).name=true\/jdc (sub s r).name=true->_:=bindC;clear bindC;cases vl:jdc (sub s l).name<;>rw[vl]at v1
 rotate_left
 .obtain ⟨q,b1,b2,b3⟩:=close (Or.inl vl);cases q
  .rw [b2 rfl];simp only[evz,w1,w2,g1,g2,g3,g4,z7,r1,r2,e1,e2,e3,v1,v2,b1];rfl
  .obtain ⟨q2,u,b4,b5,b6⟩:=b3 rfl;cases q2
   .rw [b5 rfl];simp only[evz,w1,w2,g1,g2,g3,g4,z7,r1,r2,e1,e2,e3,v1,v2,b1,b4];rfl
   .rw [<-b6 rfl];simp only[evz,w1,w2,g1,g2,g3,g4,z7,r1,r2,e1,e2,e3,v1,v2,b1,b4,hn]
 cases vr:jdc (sub s r).name<;>rw[vr]at v2
 rotate_left
 .obtain ⟨q,b1,b2,b3⟩:=close (Or.inr vr);cases q
  .rw [b2 rfl];simp only[evz,w1,w2,g1,g2,g3,g4,z7,r1,r2,e1,e2,e3,v1,v2,b1];rfl
  .obtain ⟨q2,u,b4,b5,b6⟩:=b3 rfl;cases q2
   .rw [b5 rfl];simp only[evz,w1,w2,g1,g2,g3,g4,z7,r1,r2,e1,e2,e3,v1,v2,b1,b4];rfl
   .rw [<-b6 rfl];simp only[evz,w1,w2,g1,g2,g3,g4,z7,r1,r2,e1,e2,e3,v1,v2,b1,b4,hn]
 have hst:=jlO (rest:=rest) sl sr hd vl vr;by_cases hnm:(sub s l).name=(sub s r).name;rotate_left
 .rw [ko (λh=>hnm h.1)]at hst;have hnd:=decide_eq_false hnm;rw[jgH hst hu];simp only[evz,w1,w2,g1,g2,g3,g4,z7,r1,r2,e1,e2,e3,v1,v2,hnd];rfl
 have hnd:=decide_eq_true hnm;by_cases hal:(sub s l).args.length=(sub s r).args.length;rotate_left
 .rw [ko (λh=>hal h.2)]at hst;have hal':decide ((((sub s l).args.length:Nat):Int)=(((sub s r).args.length:Nat):Int))=false:=decide_eq_false (by omega);rw[jgH hst hu];simp only[evz,w1,w2,g1,g2,g3,g4,z7,r1,r2,e1,e2,e3,v1,v2,hnd,hal'];rfl
 rw[jc6 ⟨hnm,hal⟩]at hst;have hnext:=ih _ _ res (jho hi hst).1 (jhZ hi hg hst) (jhm hst hu);have hnext:=hnext.2.1;have hin:=jEG s W (off+1) hlen (sub s l) (sub s r) hal (jm7 xl);rw[d2]at hin;rw[hnext]at hin;have hal':decide ((((sub s l).args.length:Nat):Int)=(((sub s r).args.length:Nat):Int))=true:=decide_eq_true (by omega);simp only[evz,w1,w2,g1,g2,g3,g4,z7,r1,r2,e1,e2,e3,v1,v2,hnd,hal',hn];exact hin
theorem un8(k:Nat)(ih:∀(s:jem)(es:Eqs)(res:Option jem),ji9 s es->Hgt s 126 es->jgX k s es=some res->US s es (jhB res))(s:jem)(l r:T)(rest:Eqs)(hi:ji9 s ((l,r)::rest))(hg:Hgt s 126 ((l,r)::rest))(res:Option jem)(hu:jgX (k+1) s ((l,r)::rest)=some res)(W:Eqs)(hW:W=(l,r)::rest)(hlen:W.length<=1000):jqE (sbs s) (W.map ec) []=jhB res:=by
 have hW0:W.drop 0=(l,r)::rest:=hW;rw[<-un2 k ih s l r rest hi hg res hu W 0 hW0 hlen];obtain⟨d1,d2,d3⟩:=jiE hW0;obtain⟨r1,r2⟩:=jlx d1;have w1:nOf (nA 0)=0:=rfl;have w2:nOf (nA W.length)=W.length:=rfl;have f1:jeH .gtr false (nA W.length) (vi 0)=some (vb true):=by
  show some (vb (decide ((0:Int)<((W.length:Nat):Int))))=_;rw[decide_eq_true (by omega)]
 have f3:pB W.length (jfy (W.map ec) 0) none=some W.length:=by
  rw[show jfy (W.map ec) 0=W.length by rw[jhW,jbw];rfl];exact jg6 (jl _)
 have g2:pIx W.length (vi 0)=some 0:=jg7 (i:=0) (by omega);have g3:pB (jbR (W.map ec)) (jfy (W.map ec) 0) none=some W.length:=by
  rw[jhP,f3]
 have g4:pB 0 W.length (some (vi 1))=some 1:=jhY (n:=1) (by omega);have g0:(0:Int)<((W.length:Nat):Int):=by omega
 rw[jDG,jAh,Nat.sub_zero];simp only[evz,w1,w2,f1,f3,g0,g2,g3,g4,r1,r2]
theorem un1(k:Nat)(ih:∀(s:jem)(es:Eqs)(res:Option jem),ji9 s es->Hgt s 126 es->jgX k s es=some res->US s es (jhB res))(l r:T)(rest:Eqs)(hi:ji9 [] ((l,r)::rest))(hg:Hgt [] 126 ((l,r)::rest))(res:Option jem)(hu:jgX (k+1) [] ((l,r)::rest)=some res)(W:Eqs)(off:Nat)(hW:W.drop off=(l,r)::rest)(hlen:W.length<=1000):js6 (nA off) (nA (W.length-off)) (W.map ec) [] []=jhB res:=by
 obtain⟨d1,d2,d3⟩:=jiE hW;obtain⟨r1,r2⟩:=jlx d1;obtain⟨al,ar,nl,nr⟩:=jkP hi;have hv:=hi.1;have e1:=jh7 [] hv l al (by omega);have e2:=jh7 [] hv r ar (by omega);have w1:nOf (nA off)=off:=rfl;have w2:nOf (nA (W.length-off))=W.length-off:=rfl;have g1:jeH .gtr false (nA (W.length-off)) (vi 0)=some (vb true):=by
  show some (vb (decide ((0:Int)<((W.length-off:Nat):Int))))=_;rw[decide_eq_true (by omega)]
 have g2:pIx (W.length-off) (vi 0)=some 0:=jg7 (i:=0) (by omega);have g3:pB (W.length-off) (jfy (W.map ec) off) none=some (W.length-off):=by
  rw[show jfy (W.map ec) off=W.length-off by rw[jhW,jbw]];exact jg6 (jl _)
 have g4:pB 0 (W.length-off) (some (vi 1))=some 1:=jhY (n:=1) (by omega);have hn:jgk (W.length-off) 1=W.length-(off+1):=by unfold jgk;omega
 rw[jAg];cases sl:jfs (sub [] l)<;>rw[sl]at e1
 .have e1:G 60 [.agg [.sl 3 []],tm l]=some (.tup [.agg [sv [],.sl 2 []],vb false],[]):=e1;have hr:res=none:=jgH (by unfold jhH;rw[jc6 (Or.inl sl)]) hu;subst hr;obtain⟨q,e2⟩:∃q:T×Bool,G 60 [.agg [.sl 3 []],tm r]=some (.tup [tm q.1,vb q.2],[]):=by
   cases h:jfs (sub [] r)<;>rw[h]at e2
   .exact ⟨(.mk [] [],false),e2⟩
   .exact ⟨(sub [] r,true),e2⟩
  simp only[evz,w1,w2,g1,g2,g3,g4,z7,r1,r2,e1,e2];rfl
 have e1:G 60 [.agg [.sl 3 []],tm l]=some (.tup [tm (sub [] l),vb true],[]):=e1;cases sr:jfs (sub [] r)<;>rw[sr]at e2
 .have e2:G 60 [.agg [.sl 3 []],tm r]=some (.tup [.agg [sv [],.sl 2 []],vb false],[]):=e2;have hr:res=none:=jgH (by unfold jhH;rw[jc6 (Or.inr sr)]) hu;subst hr;simp only[evz,w1,w2,g1,g2,g3,g4,z7,r1,r2,e1,e2];rfl
 have e2:G 60 [.agg [.sl 3 []],tm r]=some (.tup [tm (sub [] r),vb true],[]):=e2;have xl:AxT (sub [] l):=AxT.sub hv al;have xr:AxT (sub [] r):=AxT.sub hv ar;have ml:=jhc sl;have mr:=jhc sr;have tl:=xl.tz (by omega);have tr:=xr.tz (by omega);have e3:=jhE (sub [] l) tl.wf (sub [] r) tr.wf;have ll:=(jfR hv).1;cases hd:dq (sub [] l) (sub [] r)<;>rw[hd]at e3
 rotate_left
 .have hst:=jlP (rest:=rest) sl sr hd;have hnext:=ih _ _ res (jho hi hst).1 (jhZ hi hg hst) (jhm hst hu);have hnext:=(hnext.2.2 rfl).1 W (off+1) d2 (by omega) hlen;simp only[evz,w1,w2,g1,g2,g3,g4,z7,r1,r2,e1,e2,e3,hn];exact hnext
 have v1:=jh1 (sub [] l) (xl.imp id λh=>h.1);have v2:=jh1 (sub [] r) (xr.imp id λh=>h.1);have bindC:jdc (sub [] l).name=true\/jdc (sub [] r).name=true->(∃q:Bool,G 99 [.agg [sv (sub [] l).name,tms (sub [] l).args,sv (sub [] r).name,tms (sub [] r).args]]=some (.tup [sb [jep (sub [] l) (sub [] r)],vb q],[])/\(q=false->jhB res=jhB none)/\(q=true-> ∃q2:Bool,∃u:jem,G 100 [.agg [.sl 3 []],sb [jep (sub [] l) (sub [] r)]]=some (.tup [sb u,vb q2],[])/\(q2=false->jhB res=jhB none)/\(q2=true->jmE (nA (off+1)) (nA (W.length-(off+1))) (sbs u) (W.map ec) []=jhB res))):=by
  intro hvar;have hst:=jlN (rest:=rest) sl sr hd hvar;refine⟨_,jmJ _ _ xl xr (by omega) (by omega) hvar,λhq=>?_,λhq=>?_⟩
  .rw [hq,Bool.false_and,ko Bool.false_ne_true]at hst;rw[jgH hst hu]
  .rw [hq,Bool.true_and]at hst;have hvp:je0 [jep (sub [] l) (sub [] r)]=true:=by
    rw[Yn]at hq;exact hq.2
   have ec1:=jnX [] [jep (sub [] l) (sub [] r)] hv hvp;cases hc:je0 (jg2 [] [jep (sub [] l) (sub [] r)])
   .rw [hc,ko Bool.false_ne_true]at hst ec1;exact⟨false,[],ec1,λ_=>by rw[jgH hst hu],λh=>by cases h⟩
   .rw [hc,jc6 rfl]at hst ec1;refine⟨true,_,ec1,(λh=>by cases h),λ_=>?_⟩;have hnext:=ih _ _ res (jho hi hst).1 (jhZ hi hg hst) (jhm hst hu);exact hnext.1 W (off+1) d2 (by omega) hlen
 have close:jdc (sub [] l).name=true\/jdc (sub [] r).name=true->_:=bindC;clear bindC;cases vl:jdc (sub [] l).name<;>rw[vl]at v1
 rotate_left
 .obtain ⟨q,b1,b2,b3⟩:=close (Or.inl vl);cases q
  .rw [b2 rfl];simp only[evz,w1,w2,g1,g2,g3,g4,z7,r1,r2,e1,e2,e3,v1,v2,b1];rfl
  .obtain ⟨q2,u,b4,b5,b6⟩:=b3 rfl;cases q2
   .rw [b5 rfl];simp only[evz,w1,w2,g1,g2,g3,g4,z7,r1,r2,e1,e2,e3,v1,v2,b1,b4];rfl
   .rw [<-b6 rfl];simp only[evz,w1,w2,g1,g2,g3,g4,z7,r1,r2,e1,e2,e3,v1,v2,b1,b4,hn]
 cases vr:jdc (sub [] r).name<;>rw[vr]at v2
 rotate_left
 .obtain ⟨q,b1,b2,b3⟩:=close (Or.inr vr);cases q
  .rw [b2 rfl];simp only[evz,w1,w2,g1,g2,g3,g4,z7,r1,r2,e1,e2,e3,v1,v2,b1];rfl
  .obtain ⟨q2,u,b4,b5,b6⟩:=b3 rfl;cases q2
   .rw [b5 rfl];simp only[evz,w1,w2,g1,g2,g3,g4,z7,r1,r2,e1,e2,e3,v1,v2,b1,b4];rfl
   .rw [<-b6 rfl];simp only[evz,w1,w2,g1,g2,g3,g4,z7,r1,r2,e1,e2,e3,v1,v2,b1,b4,hn]
 have hst:=jlO (rest:=rest) sl sr hd vl vr;by_cases hnm:(sub [] l).name=(sub [] r).name;rotate_left
 .rw [ko (λh=>hnm h.1)]at hst;have hnd:=decide_eq_false hnm;rw[jgH hst hu];simp only[evz,w1,w2,g1,g2,g3,g4,z7,r1,r2,e1,e2,e3,v1,v2,hnd];rfl
 have hnd:=decide_eq_true hnm;by_cases hal:(sub [] l).args.length=(sub [] r).args.length;rotate_left
 .rw [ko (λh=>hal h.2)]at hst;have hal':decide ((((sub [] l).args.length:Nat):Int)=(((sub [] r).args.length:Nat):Int))=false:=decide_eq_false (by omega);rw[jgH hst hu];simp only[evz,w1,w2,g1,g2,g3,g4,z7,r1,r2,e1,e2,e3,v1,v2,hnd,hal'];rfl
 rw[jc6 ⟨hnm,hal⟩]at hst;have hnext:=ih _ _ res (jho hi hst).1 (jhZ hi hg hst) (jhm hst hu);have hnext:=(hnext.2.2 rfl).2;have hin:=jEF W (off+1) hlen (sub [] l) (sub [] r) hal (jm7 xl);rw[d2]at hin;rw[hnext]at hin;have hal':decide ((((sub [] l).args.length:Nat):Int)=(((sub [] r).args.length:Nat):Int))=true:=decide_eq_true (by omega);simp only[evz,w1,w2,g1,g2,g3,g4,z7,r1,r2,e1,e2,e3,v1,v2,hnd,hal',hn];exact hin
theorem un6(k:Nat)(ih:∀(s:jem)(es:Eqs)(res:Option jem),ji9 s es->Hgt s 126 es->jgX k s es=some res->US s es (jhB res))(l r:T)(rest:Eqs)(hi:ji9 [] ((l,r)::rest))(hg:Hgt [] 126 ((l,r)::rest))(res:Option jem)(hu:jgX (k+1) [] ((l,r)::rest)=some res)(W:Eqs)(hW:W=(l,r)::rest)(hlen:W.length<=1000):jo9 (W.map ec) [] []=jhB res:=by
 have hW0:W.drop 0=(l,r)::rest:=hW;rw[<-un1 k ih l r rest hi hg res hu W 0 hW0 hlen];obtain⟨d1,d2,d3⟩:=jiE hW0;obtain⟨r1,r2⟩:=jlx d1;have w1:nOf (nA 0)=0:=rfl;have w2:nOf (nA W.length)=W.length:=rfl;have f1:jeH .gtr false (nA W.length) (vi 0)=some (vb true):=by
  show some (vb (decide ((0:Int)<((W.length:Nat):Int))))=_;rw[decide_eq_true (by omega)]
 have f3:pB W.length (jfy (W.map ec) 0) none=some W.length:=by
  rw[show jfy (W.map ec) 0=W.length by rw[jhW,jbw];rfl];exact jg6 (jl _)
 have g2:pIx W.length (vi 0)=some 0:=jg7 (i:=0) (by omega);have g3:pB (jbR (W.map ec)) (jfy (W.map ec) 0) none=some W.length:=by
  rw[jhP,f3]
 have g4:pB 0 W.length (some (vi 1))=some 1:=jhY (n:=1) (by omega);have g0:(0:Int)<((W.length:Nat):Int):=by omega
 rw[jAi,jAg,Nat.sub_zero];simp only[evz,w1,w2,f1,f3,g0,g2,g3,g4,r1,r2]
theorem jD5(s:jem):US s [] (jhB (some s)):=by
 refine⟨λW off hW h1 h2=>?_,?_,λhs=>?_⟩
 .have h3:=congrArg List.length hW;rw[List.length_drop,jgS]at h3;have w2:nOf (nA (W.length-off))=W.length-off:=rfl;have g1:jeH .gtr false (nA (W.length-off)) (vi 0)=some (vb false):=by
   show some (vb (decide ((0:Int)<((W.length-off:Nat):Int))))=_;rw[decide_eq_false (by omega)]
  rw[jAh];simp only[evz,w2,g1];rfl
 .rw [jDG];have g1:jeH .gtr false (jbS (List.map ec [])) (vi 0)=some (vb false):=rfl;simp only[evz];rfl
 .subst hs;refine⟨λW off hW h1 h2=>?_,?_⟩
  .have h3:=congrArg List.length hW;rw[List.length_drop,jgS]at h3;have w2:nOf (nA (W.length-off))=W.length-off:=rfl;have g1:jeH .gtr false (nA (W.length-off)) (vi 0)=some (vb false):=by
    show some (vb (decide ((0:Int)<((W.length-off:Nat):Int))))=_;rw[decide_eq_false (by omega)]
   rw[jAg];simp only[evz,w2,g1];rfl
  .rw [jAi];have g1:jeH .gtr false (jbS (List.map ec [])) (vi 0)=some (vb false):=rfl;simp only[evz];rfl
theorem jGy:∀(k:Nat)(s:jem)(es:Eqs)(res:Option jem),ji9 s es->Hgt s 126 es->jgX k s es=some res->US s es (jhB res):=by
 intro k;induction k with
 |zero=>
  intro s es res hi hg hu;cases es with
  |nil=>simp only[jgX,jp]at hu;rw[<-hu];exact jD5 s
  |cons p es=>simp[jgX]at hu
 |succ k ih=>
  intro s es res hi hg hu;cases es with
  |nil=>simp only[jgX,jp]at hu;rw[<-hu];exact jD5 s
  |cons p rest=>
   obtain⟨l,r⟩:=p;have hl:=hg.len;refine⟨λW off hW _ hlen=>un2 k ih s l r rest hi hg res hu W off hW hlen,un8 k ih s l r rest hi hg res hu _ rfl (by omega),λhs=>?_⟩;subst hs;exact⟨λW off hW _ hlen=>un1 k ih l r rest hi hg res hu W off hW hlen,un6 k ih l r rest hi hg res hu _ rfl (by omega)⟩
theorem jIw(W:Eqs):jyR (W.map ec) [] []=jo9 (W.map ec) [] []:=by
 rw[jF8,jAi]
theorem juN(a b:T)(ha:Exx a)(hb:Exx b):G 59 [tm a,tm b]=jhB (jjJ a b):=by
 obtain⟨k,hk⟩:=jj1 ha hb;have h:=((jGy k [] [(a,b)] _ (juL ha hb) (jF7 a b) hk).2.2 rfl).2;rw[<-jIw]at h;rw[g59];simp only[evz];exact h
theorem jCx(s:jem)(W:Eqs)(off:Nat)(hW:W.length<=1000)(x y:T)(hl:x.args.length=y.args.length)(h4:x.args.length<=4) :
  jwr (nA off) (nA (W.length-off)) (vb true) (vi 0) (sbs s) (sv x.name) (tms x.args) (sv y.name) (tms y.args) (W.map ec) [] [] []=jqF (sbs s) ((x.args.zip y.args++W.drop off).map ec) [] []:=by
 have h1:nOf (nA off)=off:=rfl;have h2:nOf (nA (W.length-off))=W.length-off:=rfl;have hend:jcK (((x.args.zip y.args).map ec).length+((W.drop off).map ec).length) 80=true:=by
  rw[jbw,jbw,List.length_zip,List.length_drop];exact joq (by omega)
 have hzl:((x.args.zip y.args).map ec).length=x.args.length:=by rw[jbw,List.length_zip];omega
 have happ:jgo ((x.args.zip y.args).map ec) ((W.drop off).map ec)=(x.args.zip y.args++W.drop off).map ec:=by rw[jv];rfl
 have step:∀i,(hi:i<x.args.length)->(hi2:i<y.args.length)->jgo (((x.args.zip y.args).take i).map ec) [[sv x.args[i].name,tms x.args[i].args,sv y.args[i].name,tms y.args[i].args]]=((x.args.zip y.args).take (i+1)).map ec:=λi hi hi2=>jnm hi hi2;have key:=upto (P:=λi=>jyX (nA off) (nA (W.length-off)) (vb true) (vi (i:Nat)) (sbs s) (sv x.name) (tms x.args) (sv y.name) (tms y.args) (W.map ec) (((x.args.zip y.args).take i).map ec) [] []=jqF (sbs s) ((x.args.zip y.args++W.drop off).map ec) [] []) (n:=x.args.length) ?_ ?_
 .have hend2:(x.args.zip y.args).take x.args.length=x.args.zip y.args:=jT (by rw[List.length_zip];omega)
  rw[jGd];by_cases h0:0<x.args.length
  .have hi:=h0;have hi2:0<y.args.length:=by omega
   have hlt:(0:Int)<((x.args.length:Nat):Int):=by omega
   have ix:=jaa (k:=2) (f:=jdd) hi;have ix2:=jaa (k:=2) (f:=jdd) hi2;have ta:=step 0 hi hi2;simp only[List.take_zero,List.map_nil,Int.natCast_zero,jfO]at ta ix ix2;have hf:jcK 1 80=true:=joq (by omega);have hck:ck (0+1)=some (vi ((1:Nat):Int)):=jeY (n:=0+1) (by omega) (by omega);have key:=key 1 (by omega);rw[<-key];simp only[evz,hlt,ix,ix2,ja1,hf,hck,h1,h2];generalize hB:JY _ _ _=B;have hB':B=some (.agg [sv x.args[0].name,tms x.args[0].args,sv y.args[0].name,tms y.args[0].args]):=by rw[<-hB];kernel_rfl
   rw[hB'];simp only[evz,ta]
  .have hlt:¬(0:Int)<((x.args.length:Nat):Int):=by omega
   have he:x.args=[]:=Ym (by omega);have hz:x.args.zip y.args=[]:=by rw[he];rfl
   rw[hz]at hend happ⊢;have hend:jcK ((W.drop off).map ec).length 80=true:=by simpa using hend
   have happ:jgo [] ((W.drop off).map ec)=(W.drop off).map ec:=rfl;simp only[evz,hlt,h1,h2,jlC,zx];rw[jbw]at hend;simp only[evz,hend,happ]
 .have hend2:(x.args.zip y.args).take x.args.length=x.args.zip y.args:=jT (by rw[List.length_zip];omega)
  rw[hend2,jDJ];have hlt:¬((x.args.length:Nat):Int)<((x.args.length:Nat):Int):=by omega
  rw[hzl,jbw]at hend;simp only[evz,hlt,h1,h2,jlC,happ];rw[List.length_zip,Nat.min_eq_left (by omega)];simp only[evz,hend]
 .intro i hi ih;have hi2:i<y.args.length:=by omega
  have hlt:((i:Nat):Int)<((x.args.length:Nat):Int):=by omega
  have ta:=step i hi hi2;have li:(((x.args.zip y.args).take i).map ec).length=i:=take_len (by rw[List.length_zip];omega);have hf:jcK (i+1) 80=true:=joq (by omega);have hck:ck ((i:Int)+1)=some (vi ((i+1:Nat):Int)):=jeY (by omega) (by omega);generalize ((x.args.zip y.args).take i).map ec=R at *;rw[jDJ,<-ih];simp only[evz,hlt,jaa hi,jaa hi2,ja1];generalize hB:JY _ _ _=B;have hB':B=some (.agg [sv x.args[i].name,tms x.args[i].args,sv y.args[i].name,tms y.args[i].args]):=by rw[<-hB];kernel_rfl
  rw[hB'];simp only[evz,li,hf,ta,hck,h1,h2]
theorem jCw(W:Eqs)(off:Nat)(hW:W.length<=1000)(x y:T)(hl:x.args.length=y.args.length)(h4:x.args.length<=4) :
  jwq (nA off) (nA (W.length-off)) (vb true) (vi 0) (sv x.name) (tms x.args) (sv y.name) (tms y.args) (W.map ec) [] [] [] []=jpa ((x.args.zip y.args++W.drop off).map ec) [] [] []:=by
 have h1:nOf (nA off)=off:=rfl;have h2:nOf (nA (W.length-off))=W.length-off:=rfl;have hend:jcK (((x.args.zip y.args).map ec).length+((W.drop off).map ec).length) 80=true:=by
  rw[jbw,jbw,List.length_zip,List.length_drop];exact joq (by omega)
 have hzl:((x.args.zip y.args).map ec).length=x.args.length:=by rw[jbw,List.length_zip];omega
 have happ:jgo ((x.args.zip y.args).map ec) ((W.drop off).map ec)=(x.args.zip y.args++W.drop off).map ec:=by rw[jv];rfl
 have step:∀i,(hi:i<x.args.length)->(hi2:i<y.args.length)->jgo (((x.args.zip y.args).take i).map ec) [[sv x.args[i].name,tms x.args[i].args,sv y.args[i].name,tms y.args[i].args]]=((x.args.zip y.args).take (i+1)).map ec:=λi hi hi2=>jnm hi hi2;have key:=upto (P:=λi=>jyW (nA off) (nA (W.length-off)) (vb true) (vi (i:Nat)) (sv x.name) (tms x.args) (sv y.name) (tms y.args) (W.map ec) (((x.args.zip y.args).take i).map ec) [] [] []=jpa ((x.args.zip y.args++W.drop off).map ec) [] [] []) (n:=x.args.length) ?_ ?_
 .have hend2:(x.args.zip y.args).take x.args.length=x.args.zip y.args:=jT (by rw[List.length_zip];omega)
  rw[jGc];by_cases h0:0<x.args.length
  .have hi:=h0;have hi2:0<y.args.length:=by omega
   have hlt:(0:Int)<((x.args.length:Nat):Int):=by omega
   have ix:=jaa (k:=2) (f:=jdd) hi;have ix2:=jaa (k:=2) (f:=jdd) hi2;have ta:=step 0 hi hi2;simp only[List.take_zero,List.map_nil,Int.natCast_zero,jfO]at ta ix ix2;have hf:jcK 1 80=true:=joq (by omega);have hck:ck (0+1)=some (vi ((1:Nat):Int)):=jeY (n:=0+1) (by omega) (by omega);have key:=key 1 (by omega);rw[<-key];simp only[evz,hlt,ix,ix2,ja1,hf,hck,h1,h2];generalize hB:JY _ _ _=B;have hB':B=some (.agg [sv x.args[0].name,tms x.args[0].args,sv y.args[0].name,tms y.args[0].args]):=by rw[<-hB];kernel_rfl
   rw[hB'];simp only[evz,ta]
  .have hlt:¬(0:Int)<((x.args.length:Nat):Int):=by omega
   have he:x.args=[]:=Ym (by omega);have hz:x.args.zip y.args=[]:=by rw[he];rfl
   rw[hz]at hend happ⊢;have hend:jcK ((W.drop off).map ec).length 80=true:=by simpa using hend
   have happ:jgo [] ((W.drop off).map ec)=(W.drop off).map ec:=rfl;simp only[evz,hlt,h1,h2,jlC,zx];rw[jbw]at hend;simp only[evz,hend,happ]
 .have hend2:(x.args.zip y.args).take x.args.length=x.args.zip y.args:=jT (by rw[List.length_zip];omega)
  rw[hend2,jDI];have hlt:¬((x.args.length:Nat):Int)<((x.args.length:Nat):Int):=by omega
  rw[hzl,jbw]at hend;simp only[evz,hlt,h1,h2,jlC,happ];rw[List.length_zip,Nat.min_eq_left (by omega)];simp only[evz,hend]
 .intro i hi ih;have hi2:i<y.args.length:=by omega
  have hlt:((i:Nat):Int)<((x.args.length:Nat):Int):=by omega
  have ta:=step i hi hi2;have li:(((x.args.zip y.args).take i).map ec).length=i:=take_len (by rw[List.length_zip];omega);have hf:jcK (i+1) 80=true:=joq (by omega);have hck:ck ((i:Int)+1)=some (vi ((i+1:Nat):Int)):=jeY (by omega) (by omega);generalize ((x.args.zip y.args).take i).map ec=R at *;rw[jDI,<-ih];simp only[evz,hlt,jaa hi,jaa hi2,ja1];generalize hB:JY _ _ _=B;have hB':B=some (.agg [sv x.args[i].name,tms x.args[i].args,sv y.args[i].name,tms y.args[i].args]):=by rw[<-hB];kernel_rfl
  rw[hB'];simp only[evz,li,hf,ta,hck,h1,h2]
def USS(s:jem)(es:Eqs)(o:Xe):Prop:=
 (∀(W:Eqs)(off:Nat),W.drop off=es->off<=W.length->W.length<=1000->jmG (nA off) (nA (W.length-off)) (sbs s) (W.map ec) [] []=o)/\jqF (sbs s) (es.map ec) [] []=o/\
 (s=[]->(∀(W:Eqs)(off:Nat),W.drop off=es->off<=W.length->W.length<=1000->js7 (nA off) (nA (W.length-off)) (W.map ec) [] [] []=o)/\jpa (es.map ec) [] [] []=o)
theorem jGB(k:Nat)(ih:∀(s:jem)(es:Eqs)(res:Option jem),ji9 s es->Hgt s 126 es->jgX k s es=some res->USS s es (jhB res))(s:jem)(l r:T)(rest:Eqs)(hi:ji9 s ((l,r)::rest))(hg:Hgt s 126 ((l,r)::rest))(res:Option jem)(hu:jgX (k+1) s ((l,r)::rest)=some res)(W:Eqs)(off:Nat)(hW:W.drop off=(l,r)::rest)(hlen:W.length<=1000):jmG (nA off) (nA (W.length-off)) (sbs s) (W.map ec) [] []=jhB res:=by
 obtain⟨d1,d2,d3⟩:=jiE hW;obtain⟨r1,r2⟩:=jlx d1;obtain⟨al,ar,nl,nr⟩:=jkP hi;have hv:=hi.1;have e1:=jjP s hv l al (by omega);have e2:=jjP s hv r ar (by omega);have w1:nOf (nA off)=off:=rfl;have w2:nOf (nA (W.length-off))=W.length-off:=rfl;have g1:jeH .gtr false (nA (W.length-off)) (vi 0)=some (vb true):=by
  show some (vb (decide ((0:Int)<((W.length-off:Nat):Int))))=_;rw[decide_eq_true (by omega)]
 have g2:pIx (W.length-off) (vi 0)=some 0:=jg7 (i:=0) (by omega);have g3:pB (W.length-off) (jfy (W.map ec) off) none=some (W.length-off):=by
  rw[show jfy (W.map ec) off=W.length-off by rw[jhW,jbw]];exact jg6 (jl _)
 have g4:pB 0 (W.length-off) (some (vi 1))=some 1:=jhY (n:=1) (by omega);have hn:jgk (W.length-off) 1=W.length-(off+1):=by unfold jgk;omega
 rw[jAl];cases sl:jfs (sub s l)<;>rw[sl]at e1
 .have e1:G 113 [sb s,tm l]=some (.tup [.agg [sv [],.sl 2 []],vb false],[]):=e1;have hr:res=none:=jgH (by unfold jhH;rw[jc6 (Or.inl sl)]) hu;subst hr;obtain⟨q,e2⟩:∃q:T×Bool,G 113 [sb s,tm r]=some (.tup [tm q.1,vb q.2],[]):=by
   cases h:jfs (sub s r)<;>rw[h]at e2
   .exact ⟨(.mk [] [],false),e2⟩
   .exact ⟨(sub s r,true),e2⟩
  simp only[evz,w1,w2,g1,g2,g3,g4,z7,r1,r2,e1,e2];rfl
 have e1:G 113 [sb s,tm l]=some (.tup [tm (sub s l),vb true],[]):=e1;cases sr:jfs (sub s r)<;>rw[sr]at e2
 .have e2:G 113 [sb s,tm r]=some (.tup [.agg [sv [],.sl 2 []],vb false],[]):=e2;have hr:res=none:=jgH (by unfold jhH;rw[jc6 (Or.inr sr)]) hu;subst hr;simp only[evz,w1,w2,g1,g2,g3,g4,z7,r1,r2,e1,e2];rfl
 have e2:G 113 [sb s,tm r]=some (.tup [tm (sub s r),vb true],[]):=e2;have xl:AxT (sub s l):=AxT.sub hv al;have xr:AxT (sub s r):=AxT.sub hv ar;have ml:=jhc sl;have mr:=jhc sr;have tl:=xl.tz (by omega);have tr:=xr.tz (by omega);have e3:=jkk (sub s l) tl.wf (sub s r) tr.wf;have ll:=(jfR hv).1;cases hd:dq (sub s l) (sub s r)<;>rw[hd]at e3
 rotate_left
 .have hst:=jlP (rest:=rest) sl sr hd;have hnext:=ih _ _ res (jho hi hst).1 (jhZ hi hg hst) (jhm hst hu);have hnext:=hnext.1 W (off+1) d2 (by omega) hlen;simp only[evz,w1,w2,g1,g2,g3,g4,z7,r1,r2,e1,e2,e3,hn];exact hnext
 have v1:=jg8 (sub s l).name ((jgM _).1 tl.wf).1;have v2:=jg8 (sub s r).name ((jgM _).1 tr.wf).1;have bindC:jdc (sub s l).name=true\/jdc (sub s r).name=true-> ∃q2:Bool,∃u:jem,G 114 [sb s,sv (jep (sub s l) (sub s r)).1,tm (jep (sub s l) (sub s r)).2]=some (.tup [sb u,vb q2],[])/\(q2=false->jhB res=jhB none)/\(q2=true->jmG (nA (off+1)) (nA (W.length-(off+1))) (sbs u) (W.map ec) [] []=jhB res):=by
  intro hvar;have hst:=jlN (rest:=rest) sl sr hd hvar;obtain⟨bv,hor⟩:=jpd hvar;have bz:Tz (jep (sub s l) (sub s r)).2:=hor.elim (λh=>by rw[h.2];exact tl) λh=>by rw[h.2];exact tr
  have bk:(jep (sub s l) (sub s r)).1∈jgi (jep (sub s l) (sub s r)).2\/(jep (sub s l) (sub s r)).2.name≠(jep (sub s l) (sub s r)).1:=by
   by_cases hnm:(jep (sub s l) (sub s r)).2.name=(jep (sub s l) (sub s r)).1
   .left;rw[vsv (by rw[hnm];exact bv),hnm];simp
   .exact Or.inr hnm
  obtain⟨z,eb⟩:=jq0 s hv _ _ bv bz bk;rw[<-Bool.and_assoc]at eb;cases hc:(!decide ((jep (sub s l) (sub s r)).1∈jgi (jep (sub s l) (sub s r)).2) && je0 [jep (sub s l) (sub s r)]) && je0 (jg2 s [jep (sub s l) (sub s r)])
  .rw [hc,ko Bool.false_ne_true]at hst;have eb:=eb.trans (by rw[show((jep (sub s l) (sub s r)).1,(jep (sub s l) (sub s r)).2)=jep (sub s l) (sub s r) from rfl,hc,ko Bool.false_ne_true]);exact⟨false,z,eb,λ_=>by rw[jgH hst hu],λh=>by cases h⟩
  .rw [hc,jc6 rfl]at hst;have eb:=eb.trans (by rw[show((jep (sub s l) (sub s r)).1,(jep (sub s l) (sub s r)).2)=jep (sub s l) (sub s r) from rfl,hc,jc6 rfl]);refine⟨true,_,eb,(λh=>by cases h),λ_=>?_⟩;have hnext:=ih _ _ res (jho hi hst).1 (jhZ hi hg hst) (jhm hst hu);exact hnext.1 W (off+1) d2 (by omega) hlen
 cases vl:jdc (sub s l).name<;>rw[vl]at v1
 rotate_left
 .cases vr:jdc (sub s r).name<;>rw[vr]at v2
  .obtain ⟨q2,u,b1,b2,b3⟩:=bindC (Or.inl vl);have hbd:jep (sub s l) (sub s r)=((sub s l).name,sub s r):=ko (by rw[vl,vr];simp);rw[hbd]at b1;cases q2
   .rw [b2 rfl];simp only[evz,w1,w2,g1,g2,g3,g4,z7,r1,r2,e1,e2,e3,v1,v2,b1];rfl
   .rw [<-b3 rfl];simp only[evz,w1,w2,g1,g2,g3,g4,z7,r1,r2,e1,e2,e3,v1,v2,b1,hn]
  .cases hc:sLt (sub s l).name (sub s r).name
   .obtain ⟨q2,u,b1,b2,b3⟩:=bindC (Or.inl vl);have hbd:jep (sub s l) (sub s r)=((sub s l).name,sub s r):=ko (by rw[vl,vr,hc];simp);rw[hbd]at b1;cases q2
    .rw [b2 rfl];simp only[evz,w1,w2,g1,g2,g3,g4,z7,r1,r2,e1,e2,e3,v1,v2,hc,b1];rfl
    .rw [<-b3 rfl];simp only[evz,w1,w2,g1,g2,g3,g4,z7,r1,r2,e1,e2,e3,v1,v2,hc,b1,hn]
   .obtain ⟨q2,u,b1,b2,b3⟩:=bindC (Or.inl vl);have hbd:jep (sub s l) (sub s r)=((sub s r).name,sub s l):=jc6 (Or.inr ⟨vr,hc⟩);rw[hbd]at b1;cases q2
    .rw [b2 rfl];simp only[evz,w1,w2,g1,g2,g3,g4,z7,r1,r2,e1,e2,e3,v1,v2,hc,b1];rfl
    .rw [<-b3 rfl];simp only[evz,w1,w2,g1,g2,g3,g4,z7,r1,r2,e1,e2,e3,v1,v2,hc,b1,hn]
 cases vr:jdc (sub s r).name<;>rw[vr]at v2
 rotate_left
 .obtain ⟨q2,u,b1,b2,b3⟩:=bindC (Or.inr vr);have hbd:jep (sub s l) (sub s r)=((sub s r).name,sub s l):=jc6 (Or.inl vl);rw[hbd]at b1;cases q2
  .rw [b2 rfl];simp only[evz,w1,w2,g1,g2,g3,g4,z7,r1,r2,e1,e2,e3,v1,v2,b1];rfl
  .rw [<-b3 rfl];simp only[evz,w1,w2,g1,g2,g3,g4,z7,r1,r2,e1,e2,e3,v1,v2,b1,hn]
 have hst:=jlO (rest:=rest) sl sr hd vl vr;by_cases hnm:(sub s l).name=(sub s r).name;rotate_left
 .rw [ko (λh=>hnm h.1)]at hst;have hnd:=decide_eq_false hnm;rw[jgH hst hu];simp only[evz,w1,w2,g1,g2,g3,g4,z7,r1,r2,e1,e2,e3,v1,v2,hnd];rfl
 have hnd:=decide_eq_true hnm;by_cases hal:(sub s l).args.length=(sub s r).args.length;rotate_left
 .rw [ko (λh=>hal h.2)]at hst;have hal':decide ((((sub s l).args.length:Nat):Int)=(((sub s r).args.length:Nat):Int))=false:=decide_eq_false (by omega);rw[jgH hst hu];simp only[evz,w1,w2,g1,g2,g3,g4,z7,r1,r2,e1,e2,e3,v1,v2,hnd,hal'];rfl
 rw[jc6 ⟨hnm,hal⟩]at hst;have hnext:=ih _ _ res (jho hi hst).1 (jhZ hi hg hst) (jhm hst hu);have hnext:=hnext.2.1;have hin:=jCx s W (off+1) hlen (sub s l) (sub s r) hal (jm7 xl);rw[d2]at hin;rw[hnext]at hin;have hal':decide ((((sub s l).args.length:Nat):Int)=(((sub s r).args.length:Nat):Int))=true:=decide_eq_true (by omega);simp only[evz,w1,w2,g1,g2,g3,g4,z7,r1,r2,e1,e2,e3,v1,v2,hnd,hal',hn];exact hin
theorem jIy(k:Nat)(ih:∀(s:jem)(es:Eqs)(res:Option jem),ji9 s es->Hgt s 126 es->jgX k s es=some res->USS s es (jhB res))(s:jem)(l r:T)(rest:Eqs)(hi:ji9 s ((l,r)::rest))(hg:Hgt s 126 ((l,r)::rest))(res:Option jem)(hu:jgX (k+1) s ((l,r)::rest)=some res)(W:Eqs)(hW:W=(l,r)::rest)(hlen:W.length<=1000):jqF (sbs s) (W.map ec) [] []=jhB res:=by
 have hW0:W.drop 0=(l,r)::rest:=hW;rw[<-jGB k ih s l r rest hi hg res hu W 0 hW0 hlen];obtain⟨d1,d2,d3⟩:=jiE hW0;obtain⟨r1,r2⟩:=jlx d1;have w1:nOf (nA 0)=0:=rfl;have w2:nOf (nA W.length)=W.length:=rfl;have f1:jeH .gtr false (nA W.length) (vi 0)=some (vb true):=by
  show some (vb (decide ((0:Int)<((W.length:Nat):Int))))=_;rw[decide_eq_true (by omega)]
 have f3:pB W.length (jfy (W.map ec) 0) none=some W.length:=by
  rw[show jfy (W.map ec) 0=W.length by rw[jhW,jbw];rfl];exact jg6 (jl _)
 have g2:pIx W.length (vi 0)=some 0:=jg7 (i:=0) (by omega);have g3:pB (jbR (W.map ec)) (jfy (W.map ec) 0) none=some W.length:=by
  rw[jhP,f3]
 have g4:pB 0 W.length (some (vi 1))=some 1:=jhY (n:=1) (by omega);have g0:(0:Int)<((W.length:Nat):Int):=by omega
 rw[jDK,jAl,Nat.sub_zero];simp only[evz,w1,w2,f1,f3,g0,g2,g3,g4,r1,r2]
theorem jGA(k:Nat)(ih:∀(s:jem)(es:Eqs)(res:Option jem),ji9 s es->Hgt s 126 es->jgX k s es=some res->USS s es (jhB res))(l r:T)(rest:Eqs)(hi:ji9 [] ((l,r)::rest))(hg:Hgt [] 126 ((l,r)::rest))(res:Option jem)(hu:jgX (k+1) [] ((l,r)::rest)=some res)(W:Eqs)(off:Nat)(hW:W.drop off=(l,r)::rest)(hlen:W.length<=1000):js7 (nA off) (nA (W.length-off)) (W.map ec) [] [] []=jhB res:=by
 obtain⟨d1,d2,d3⟩:=jiE hW;obtain⟨r1,r2⟩:=jlx d1;obtain⟨al,ar,nl,nr⟩:=jkP hi;have hv:=hi.1;have e1:=jjP [] hv l al (by omega);have e2:=jjP [] hv r ar (by omega);have w1:nOf (nA off)=off:=rfl;have w2:nOf (nA (W.length-off))=W.length-off:=rfl;have g1:jeH .gtr false (nA (W.length-off)) (vi 0)=some (vb true):=by
  show some (vb (decide ((0:Int)<((W.length-off:Nat):Int))))=_;rw[decide_eq_true (by omega)]
 have g2:pIx (W.length-off) (vi 0)=some 0:=jg7 (i:=0) (by omega);have g3:pB (W.length-off) (jfy (W.map ec) off) none=some (W.length-off):=by
  rw[show jfy (W.map ec) off=W.length-off by rw[jhW,jbw]];exact jg6 (jl _)
 have g4:pB 0 (W.length-off) (some (vi 1))=some 1:=jhY (n:=1) (by omega);have hn:jgk (W.length-off) 1=W.length-(off+1):=by unfold jgk;omega
 rw[jAk];cases sl:jfs (sub [] l)<;>rw[sl]at e1
 .have e1:G 113 [.agg [.sl 3 []],tm l]=some (.tup [.agg [sv [],.sl 2 []],vb false],[]):=e1;have hr:res=none:=jgH (by unfold jhH;rw[jc6 (Or.inl sl)]) hu;subst hr;obtain⟨q,e2⟩:∃q:T×Bool,G 113 [.agg [.sl 3 []],tm r]=some (.tup [tm q.1,vb q.2],[]):=by
   cases h:jfs (sub [] r)<;>rw[h]at e2
   .exact ⟨(.mk [] [],false),e2⟩
   .exact ⟨(sub [] r,true),e2⟩
  simp only[evz,w1,w2,g1,g2,g3,g4,z7,r1,r2,e1,e2];rfl
 have e1:G 113 [.agg [.sl 3 []],tm l]=some (.tup [tm (sub [] l),vb true],[]):=e1;cases sr:jfs (sub [] r)<;>rw[sr]at e2
 .have e2:G 113 [.agg [.sl 3 []],tm r]=some (.tup [.agg [sv [],.sl 2 []],vb false],[]):=e2;have hr:res=none:=jgH (by unfold jhH;rw[jc6 (Or.inr sr)]) hu;subst hr;simp only[evz,w1,w2,g1,g2,g3,g4,z7,r1,r2,e1,e2];rfl
 have e2:G 113 [.agg [.sl 3 []],tm r]=some (.tup [tm (sub [] r),vb true],[]):=e2;have xl:AxT (sub [] l):=AxT.sub hv al;have xr:AxT (sub [] r):=AxT.sub hv ar;have ml:=jhc sl;have mr:=jhc sr;have tl:=xl.tz (by omega);have tr:=xr.tz (by omega);have e3:=jkk (sub [] l) tl.wf (sub [] r) tr.wf;have ll:=(jfR hv).1;cases hd:dq (sub [] l) (sub [] r)<;>rw[hd]at e3
 rotate_left
 .have hst:=jlP (rest:=rest) sl sr hd;have hnext:=ih _ _ res (jho hi hst).1 (jhZ hi hg hst) (jhm hst hu);have hnext:=(hnext.2.2 rfl).1 W (off+1) d2 (by omega) hlen;simp only[evz,w1,w2,g1,g2,g3,g4,z7,r1,r2,e1,e2,e3,hn];exact hnext
 have v1:=jg8 (sub [] l).name ((jgM _).1 tl.wf).1;have v2:=jg8 (sub [] r).name ((jgM _).1 tr.wf).1;have bindC:jdc (sub [] l).name=true\/jdc (sub [] r).name=true-> ∃q2:Bool,∃u:jem,G 114 [.agg [.sl 3 []],sv (jep (sub [] l) (sub [] r)).1,tm (jep (sub [] l) (sub [] r)).2]=some (.tup [sb u,vb q2],[])/\(q2=false->jhB res=jhB none)/\(q2=true->jmG (nA (off+1)) (nA (W.length-(off+1))) (sbs u) (W.map ec) [] []=jhB res):=by
  intro hvar;have hst:=jlN (rest:=rest) sl sr hd hvar;obtain⟨bv,hor⟩:=jpd hvar;have bz:Tz (jep (sub [] l) (sub [] r)).2:=hor.elim (λh=>by rw[h.2];exact tl) λh=>by rw[h.2];exact tr
  have bk:(jep (sub [] l) (sub [] r)).1∈jgi (jep (sub [] l) (sub [] r)).2\/(jep (sub [] l) (sub [] r)).2.name≠(jep (sub [] l) (sub [] r)).1:=by
   by_cases hnm:(jep (sub [] l) (sub [] r)).2.name=(jep (sub [] l) (sub [] r)).1
   .left;rw[vsv (by rw[hnm];exact bv),hnm];simp
   .exact Or.inr hnm
  obtain⟨z,eb⟩:=jq0 [] hv _ _ bv bz bk;rw[<-Bool.and_assoc]at eb;cases hc:(!decide ((jep (sub [] l) (sub [] r)).1∈jgi (jep (sub [] l) (sub [] r)).2) && je0 [jep (sub [] l) (sub [] r)]) && je0 (jg2 [] [jep (sub [] l) (sub [] r)])
  .rw [hc,ko Bool.false_ne_true]at hst;have eb:=eb.trans (by rw[show((jep (sub [] l) (sub [] r)).1,(jep (sub [] l) (sub [] r)).2)=jep (sub [] l) (sub [] r) from rfl,hc,ko Bool.false_ne_true]);exact⟨false,z,eb,λ_=>by rw[jgH hst hu],λh=>by cases h⟩
  .rw [hc,jc6 rfl]at hst;have eb:=eb.trans (by rw[show((jep (sub [] l) (sub [] r)).1,(jep (sub [] l) (sub [] r)).2)=jep (sub [] l) (sub [] r) from rfl,hc,jc6 rfl]);refine⟨true,_,eb,(λh=>by cases h),λ_=>?_⟩;have hnext:=ih _ _ res (jho hi hst).1 (jhZ hi hg hst) (jhm hst hu);exact hnext.1 W (off+1) d2 (by omega) hlen
 cases vl:jdc (sub [] l).name<;>rw[vl]at v1
 rotate_left
 .cases vr:jdc (sub [] r).name<;>rw[vr]at v2
  .obtain ⟨q2,u,b1,b2,b3⟩:=bindC (Or.inl vl);have hbd:jep (sub [] l) (sub [] r)=((sub [] l).name,sub [] r):=ko (by rw[vl,vr];simp);rw[hbd]at b1;cases q2
   .rw [b2 rfl];simp only[evz,w1,w2,g1,g2,g3,g4,z7,r1,r2,e1,e2,e3,v1,v2,b1];rfl
   .rw [<-b3 rfl];simp only[evz,w1,w2,g1,g2,g3,g4,z7,r1,r2,e1,e2,e3,v1,v2,b1,hn]
  .cases hc:sLt (sub [] l).name (sub [] r).name
   .obtain ⟨q2,u,b1,b2,b3⟩:=bindC (Or.inl vl);have hbd:jep (sub [] l) (sub [] r)=((sub [] l).name,sub [] r):=ko (by rw[vl,vr,hc];simp);rw[hbd]at b1;cases q2
    .rw [b2 rfl];simp only[evz,w1,w2,g1,g2,g3,g4,z7,r1,r2,e1,e2,e3,v1,v2,hc,b1];rfl
    .rw [<-b3 rfl];simp only[evz,w1,w2,g1,g2,g3,g4,z7,r1,r2,e1,e2,e3,v1,v2,hc,b1,hn]
   .obtain ⟨q2,u,b1,b2,b3⟩:=bindC (Or.inl vl);have hbd:jep (sub [] l) (sub [] r)=((sub [] r).name,sub [] l):=jc6 (Or.inr ⟨vr,hc⟩);rw[hbd]at b1;cases q2
    .rw [b2 rfl];simp only[evz,w1,w2,g1,g2,g3,g4,z7,r1,r2,e1,e2,e3,v1,v2,hc,b1];rfl
    .rw [<-b3 rfl];simp only[evz,w1,w2,g1,g2,g3,g4,z7,r1,r2,e1,e2,e3,v1,v2,hc,b1,hn]
 cases vr:jdc (sub [] r).name<;>rw[vr]at v2
 rotate_left
 .obtain ⟨q2,u,b1,b2,b3⟩:=bindC (Or.inr vr);have hbd:jep (sub [] l) (sub [] r)=((sub [] r).name,sub [] l):=jc6 (Or.inl vl);rw[hbd]at b1;cases q2
  .rw [b2 rfl];simp only[evz,w1,w2,g1,g2,g3,g4,z7,r1,r2,e1,e2,e3,v1,v2,b1];rfl
  .rw [<-b3 rfl];simp only[evz,w1,w2,g1,g2,g3,g4,z7,r1,r2,e1,e2,e3,v1,v2,b1,hn]
 have hst:=jlO (rest:=rest) sl sr hd vl vr;by_cases hnm:(sub [] l).name=(sub [] r).name;rotate_left
 .rw [ko (λh=>hnm h.1)]at hst;have hnd:=decide_eq_false hnm;rw[jgH hst hu];simp only[evz,w1,w2,g1,g2,g3,g4,z7,r1,r2,e1,e2,e3,v1,v2,hnd];rfl
 have hnd:=decide_eq_true hnm;by_cases hal:(sub [] l).args.length=(sub [] r).args.length;rotate_left
 .rw [ko (λh=>hal h.2)]at hst;have hal':decide ((((sub [] l).args.length:Nat):Int)=(((sub [] r).args.length:Nat):Int))=false:=decide_eq_false (by omega);rw[jgH hst hu];simp only[evz,w1,w2,g1,g2,g3,g4,z7,r1,r2,e1,e2,e3,v1,v2,hnd,hal'];rfl
 rw[jc6 ⟨hnm,hal⟩]at hst;have hnext:=ih _ _ res (jho hi hst).1 (jhZ hi hg hst) (jhm hst hu);have hnext:=(hnext.2.2 rfl).2;have hin:=jCw W (off+1) hlen (sub [] l) (sub [] r) hal (jm7 xl);rw[d2]at hin;rw[hnext]at hin;have hal':decide ((((sub [] l).args.length:Nat):Int)=(((sub [] r).args.length:Nat):Int))=true:=decide_eq_true (by omega);simp only[evz,w1,w2,g1,g2,g3,g4,z7,r1,r2,e1,e2,e3,v1,v2,hnd,hal',hn];exact hin
theorem jIx(k:Nat)(ih:∀(s:jem)(es:Eqs)(res:Option jem),ji9 s es->Hgt s 126 es->jgX k s es=some res->USS s es (jhB res))(l r:T)(rest:Eqs)(hi:ji9 [] ((l,r)::rest))(hg:Hgt [] 126 ((l,r)::rest))(res:Option jem)(hu:jgX (k+1) [] ((l,r)::rest)=some res)(W:Eqs)(hW:W=(l,r)::rest)(hlen:W.length<=1000):jpa (W.map ec) [] [] []=jhB res:=by
 have hW0:W.drop 0=(l,r)::rest:=hW;rw[<-jGA k ih l r rest hi hg res hu W 0 hW0 hlen];obtain⟨d1,d2,d3⟩:=jiE hW0;obtain⟨r1,r2⟩:=jlx d1;have w1:nOf (nA 0)=0:=rfl;have w2:nOf (nA W.length)=W.length:=rfl;have f1:jeH .gtr false (nA W.length) (vi 0)=some (vb true):=by
  show some (vb (decide ((0:Int)<((W.length:Nat):Int))))=_;rw[decide_eq_true (by omega)]
 have f3:pB W.length (jfy (W.map ec) 0) none=some W.length:=by
  rw[show jfy (W.map ec) 0=W.length by rw[jhW,jbw];rfl];exact jg6 (jl _)
 have g2:pIx W.length (vi 0)=some 0:=jg7 (i:=0) (by omega);have g3:pB (jbR (W.map ec)) (jfy (W.map ec) 0) none=some W.length:=by
  rw[jhP,f3]
 have g4:pB 0 W.length (some (vi 1))=some 1:=jhY (n:=1) (by omega);have g0:(0:Int)<((W.length:Nat):Int):=by omega
 rw[jAm,jAk,Nat.sub_zero];simp only[evz,w1,w2,f1,f3,g0,g2,g3,g4,r1,r2]
theorem jBk(s:jem):USS s [] (jhB (some s)):=by
 refine⟨λW off hW h1 h2=>?_,?_,λhs=>?_⟩
 .have h3:=congrArg List.length hW;rw[List.length_drop,jgS]at h3;have w2:nOf (nA (W.length-off))=W.length-off:=rfl;have g1:jeH .gtr false (nA (W.length-off)) (vi 0)=some (vb false):=by
   show some (vb (decide ((0:Int)<((W.length-off:Nat):Int))))=_;rw[decide_eq_false (by omega)]
  rw[jAl];simp only[evz,w2,g1];rfl
 .rw [jDK];have g1:jeH .gtr false (jbS (List.map ec [])) (vi 0)=some (vb false):=rfl;simp only[evz];rfl
 .subst hs;refine⟨λW off hW h1 h2=>?_,?_⟩
  .have h3:=congrArg List.length hW;rw[List.length_drop,jgS]at h3;have w2:nOf (nA (W.length-off))=W.length-off:=rfl;have g1:jeH .gtr false (nA (W.length-off)) (vi 0)=some (vb false):=by
    show some (vb (decide ((0:Int)<((W.length-off:Nat):Int))))=_;rw[decide_eq_false (by omega)]
   rw[jAk];simp only[evz,w2,g1];rfl
  .rw [jAm];have g1:jeH .gtr false (jbS (List.map ec [])) (vi 0)=some (vb false):=rfl;simp only[evz];rfl
theorem jE9:∀(k:Nat)(s:jem)(es:Eqs)(res:Option jem),ji9 s es->Hgt s 126 es->jgX k s es=some res->USS s es (jhB res):=by
 intro k;induction k with
 |zero=>
  intro s es res hi hg hu;cases es with
  |nil=>simp only[jgX,jp]at hu;rw[<-hu];exact jBk s
  |cons p es=>simp[jgX]at hu
 |succ k ih=>
  intro s es res hi hg hu;cases es with
  |nil=>simp only[jgX,jp]at hu;rw[<-hu];exact jBk s
  |cons p rest=>
   obtain⟨l,r⟩:=p;have hl:=hg.len;refine⟨λW off hW _ hlen=>jGB k ih s l r rest hi hg res hu W off hW hlen,jIy k ih s l r rest hi hg res hu _ rfl (by omega),λhs=>?_⟩;subst hs;exact⟨λW off hW _ hlen=>jGA k ih l r rest hi hg res hu W off hW hlen,jIx k ih l r rest hi hg res hu _ rfl (by omega)⟩
theorem jGz(W:Eqs):jyV (W.map ec) [] [] []=jpa (W.map ec) [] [] []:=by
 rw[jGb,jAm]
theorem jpF(a b:T)(ha:Exx a)(hb:Exx b):G 69 [tm a,tm b]=jhB (jjJ a b):=by
 obtain⟨k,hk⟩:=jj1 ha hb;have h:=((jE9 k [] [(a,b)] _ (juL ha hb) (jF7 a b) hk).2.2 rfl).2;rw[<-jGz]at h;rw[g69];simp only[evz];exact h
def lsz:Cls->Nat
 | []=>0
 |l::c=>tsz l.2+lsz c
def csz(c:Cls):Nat:=c.length+lsz c
def jFR:List Cls->Nat
 | []=>0
 |c::l=>csz c+jFR l
def ssz(s:Stp):Nat:=s.par.length+s.whr.length+csz s.cls
def jGv:List Stp->Nat
 | []=>0
 |s::l=>ssz s+jGv l
def psz(p:Prf):Nat:=(p.ax.length+jFR p.ax)+(p.st.length+jGv p.st)
def jIV(s:Sch):Nat:=psz s.prf+s.act.length+s.pas.length
theorem jxA(d:Cls)(h:jgN d=true):G 56 [cm d]=some (cm (jfT d),[]):=by
 obtain⟨hc,_,_,hnm⟩:=jgA h;have hl:=jib hc;have e1:=jq5 d hc;have e2:=jl5 89 d hc (jgg d) (λn=>jmm) (hc.ren_tz (by decide));have e2:G 96 [cm d,.mp ((jiT 89 0 (jgg d)).map kn)]=some (cm (jfT d),[]):=by rw[e2,<-apart_eq h];rfl
 have hnd:=jkJ d;have hnum:∀i (hi:i<(jgg d).length),(jgg d)[i]=jic 88 i:=λi hi=>by
  obtain⟨j,hj,e,e'⟩:=jmo hnm (jcF hi);rw[jqL hnd hi]at e';rw[e,jAt e']
 generalize jgg d=ns at *;have key:=upto (P:=λi=>∀m:Nm',(∀n∈ns.drop i,jhk m n=none)->m++jiT 89 i (ns.drop i)=jiT 89 0 ns->jwl (strs ns) (vi (ns.length:Nat)) (vi (i:Nat)) (.sl 3 (d.map ltc)) (m.map kn) []=some (cm (jfT d),[])) (n:=ns.length) ?_ ?_ 0 (Nat.zero_le _) [] (λn _=>rfl) (by rw[List.drop_zero];rfl)
 .simp only[Int.natCast_zero,List.map_nil]at key;rw[g56];simp only[evz,e1,key]
 .intro m _ hm;rw[List.drop_length,jiT,ZE]at hm;subst hm;rw[jDC];simp only[evz,e2]
 .intro i hi ih m hm hp;have hlt:(i:Int)<((ns.length:Nat):Int):=by omega
  have h5:=jef hi (by show ns.length<=9223372036854775807;omega)
  have ld:jas (.elt (cs ns[i]) 0)=some (sv ns[i]):=rfl;have hd:(ns.drop i).Nodup:=hnd.sublist (List.drop_sublist i ns);rw[jdb hi]at hm hd hp;have pt:=jDY (hm ns[i] (Q1 ..)) (jic 89 i);have e3:KF (sv ns[i]) (some (vi 1)) none=some (sv (Lib.decDigits i)):=by
   rw[hnum i hi];have hlen:(jic 88 i).length=(Lib.decDigits i).length+1:=rfl;show(if(0:Int)<=1/\(1:Int)<=(((jic 88 i).length:Nat):Int)/\(((jic 88 i).length:Nat):Int)<=(((jic 88 i).length:Nat):Int)then some (sv (((jic 88 i).take ((((jic 88 i).length:Nat):Int).toNat)).drop 1))else none)=_;rw[jc6 ⟨by omega,by omega,by omega⟩,Int.toNat_natCast,List.take_length];rfl
  have e4:=jCL 89 i (by omega);have ih:=ih (m++[(ns[i],jic 89 i)]) (λn hn'=>by
   rw[jnF,hm n (kO _ hn')];show(if ns[i]=n then _ else none)=none;rw[ko];rintro e;exact(Q0.1 hd).1 (e ▸ hn')) (by rw[jbs];exact hp)
  rw[jDC];simp only[evz,hlt,jaa hi,ld,e3,e4,pt,h5,ih]
theorem jqG(d:Cls)(h:jgN d=true):G 66 [cm d]=some (cm (jfT d),[]):=by
 obtain⟨hc,_,_,_⟩:=jgA h;have e1:=jq6 d hc;have e2:=jn4 89 (by decide) d hc;rw[apart_eq h]at e2;rw[g66];simp only[evz,e1,e2]
theorem jy8(c:Cls)(hl:c.length<=1000):ju6 (.sl 3 (c.map ltc))=some (.top,[.sl 3 (c.map ltc)]):=by
 have e1:jfv (.sl 3 (c.map ltc))=some (c.map ltc):=rfl;have f:jcK c.length 48=true:=jjg (by omega);rw[jEk];cases c with
 |nil=>
  have f0:jcK 0 48=true:=jjg (by omega);have hz:nz (jbR [])=true:=rfl;have e1:jfv (.sl 3 [])=some []:=rfl;simp only[evz,e1,hz,f0,List.map_nil,jfe]
 |cons l r=>
  have hz:nz (jbR (List.map ltc (l::r)))=false:=rfl;generalize l::r=x at *;simp only[evz,e1,hz,f]
theorem jxK(c:Cls)(hl:c.length<=1000)(i:Nat)(hi:i<c.length):ju5 (vi (i:Nat)) (vi ((i+1:Nat):Int)) (c.map ltc)=some (.top,[.sl 3 ((c.eraseIdx i).map ltc)]):=by
 have e1:jbR (c.map ltc)=c.length:=jhP ltc c;have e2:jfy (c.map ltc) 0=c.length:=by rw[jhW,jbw];rfl
 have hne:¬((i:Nat):Int)=((i+1:Nat):Int):=by omega
 have k1:pB 0 c.length (some (vi (c.length:Nat)))=some c.length:=jhY (jl _);have k2:pB 0 c.length (some (vi ((i+1:Nat):Int)))=some (i+1):=jhY (by omega);have k3:pB 0 (i+1) (some (vi (i:Nat)))=some i:=jhY (by omega);have k4:pB c.length c.length (some (vi (i:Nat)))=some i:=jhY (by omega);have k5:pB c.length c.length none=some c.length:=jg6 (jl _);have w1:jgq (c.map ltc) (0+(i+1)) (jgk c.length (i+1))=(c.drop (i+1)).map ltc:=by
  rw[jnc,jhJ,jfO,<-List.map_drop,jT (by rw[jbw,List.length_drop];omega)]
 have w2:jbR ((c.drop (i+1)).map ltc)=c.length-(i+1):=by rw[jhP,List.length_drop]
 have rm:jea 0 (jgk i 0) ((c.drop (i+1)).map ltc) (c.map ltc)=true:=by
  rw[jAO,jhJ];exact decide_eq_true (by rw[jbw,jbw,List.length_drop];omega)
 generalize hov:yL (c.map ltc) (0+jgk i 0) ((c.drop (i+1)).map ltc)=O at *;have hO:O=(c.eraseIdx i).map ltc++(c.map ltc).drop (c.length-1):=by
  rw[<-hov,jkn,jhJ,Nat.sub_zero,jfO,List.eraseIdx_eq_take_drop_succ,jv,List.map_take,jbw,List.length_drop];congr 2;omega
 have hOl:O.length=c.length:=by
  rw[hO,yM,jbw,List.length_eraseIdx_of_lt hi,List.length_drop,jbw];omega
 have k6:pB (jgk i 0+(c.length-(i+1))) (jfy O 0) (some (vi (c.length:Nat)))=some c.length:=by
  rw[jhW,hOl];exact jhY (by omega)
 have k7:pB 0 c.length (some (nA (jgk i 0+(c.length-(i+1)))))=some (c.length-1):=by
  rw[jhJ,show i-0+(c.length-(i+1))=c.length-1 by omega];exact jhY (by omega)
 have fin:List.take (jgk i 0+(c.length-(i+1))) (yL O (0+(c.length-1)) (jcP (jgk c.length (c.length-1)) [vb false,sv [],.sl 2 []]))=(c.eraseIdx i).map ltc:=by
  have hlen:((c.eraseIdx i).map ltc).length=c.length-1:=by rw[jbw,List.length_eraseIdx_of_lt hi]
  rw[jhJ,show i-0+(c.length-(i+1))=c.length-1 by omega,jkn,jfO,jbs,qL (by rw[List.length_take,hOl];omega),List.take_take,Nat.min_self,hO,qL (by omega),jT (by omega)]
 rw[jEj];simp only[cev];rw[e1,e2,jnb,jbw,k1,Option.bind_some,k2,Option.bind_some,k3,Option.bind_some,jt4,decide_eq_false hne,Option.bind_some,jjE,Option.bind_some,jjp,k4,Option.bind_some,k5,Option.bind_some,k2,Option.bind_some,w1,rm,jpe,hov,w2,k6,Option.bind_some,k7,Option.bind_some,fin]
theorem jms(c:Cls)(hl:c.length<=1000)(i:Nat)(hi:i<c.length):G 65 [cm c,vi (i:Nat)]=some (.sl 3 ((c.eraseIdx i).map ltc),[]):=by
 have e1:=jy8 c hl;have e2:=jxK c hl i hi;have r1:∀x:Cls,hR 3 (A.top,[.sl 3 (x.map ltc)]) 0=some (x.map ltc):=λx=>rfl;have h5:=jef hi (by show c.length<=9223372036854775807;omega);rw[g65];simp only[evz,e1,r1,h5,e2]
theorem jlD(c:Cls)(hl:c.length<=1000)(i:Nat)(hi:i<c.length):jsX (.sl 3 (c.map ltc)) (vi (i:Nat))=some (.top,[.sl 3 ((c.eraseIdx i).map ltc)]):=by
 have s1:J2 3 (.sl 3 (c.map ltc)) none (some (vi (i:Nat)))=some (.sl 3 ((c.map ltc).take i)):=jiD (by rw[jbw];omega)
 have s2:J2 3 (.sl 3 (c.map ltc)) (some (vi ((i+1:Nat):Int))) none=some (.sl 3 ((c.map ltc).drop (i+1))):=jid (by rw[jbw];omega)
 have hck:ck ((i:Int)+1)=some (vi ((i+1:Nat):Int)):=jeY (by omega) (by omega);have f1:jcK ((c.map ltc).take i).length 48=true:=jjg (by rw[List.length_take,jbw];omega);have f2:jcK (((c.map ltc).take i).length+((c.map ltc).drop (i+1)).length) 48=true:=jjg (by rw[List.length_take,List.length_drop,jbw];omega);have fin:jgo ((c.map ltc).take i) ((c.map ltc).drop (i+1))=(c.eraseIdx i).map ltc:=by
  rw[List.eraseIdx_eq_take_drop_succ,jv,List.map_take,List.map_drop];rfl
 rw[jFJ];simp only[evz,s1,s2,hck,f1,f2,fin]
theorem jCu(n:Nat)(hn:n<=1000):ju4 (vi (n:Nat))=some (.top,[.sl 3 []]):=by
 have h0:¬((n:Nat):Int)<0:=by omega
 have c1:ck (0-0)=some (vi 0):=jeY (n:=0-0) (by omega) (by omega);have c2:ck (((n:Nat):Int)-0)=some (vi (n:Nat)):=by rw[Int.sub_zero];exact jeY (by omega) (by omega)
 rw[jEi];by_cases hz:n=0
 .have hz':¬(0:Int)<((n:Nat):Int):=by omega
  simp only[evz,h0,c1,c2,hz']
 .have hz':(0:Int)<((n:Nat):Int):=by omega
  have k1:pB 0 0 (some (vi 0))=some 0:=rfl;have k2:=jnN (b:=48) (n:=n) (by omega) (by omega);have k3:jcK n 48=true:=jjg (by omega);have k4:∀X:Xc,pB (jbR X) (jfy X 0) (some (vi 0))=some 0:=λX=>jhY (n:=0) (Nat.zero_le _);simp only[evz,h0,c1,c2,hz',k1,k2,k3,k4,jhJ];rfl
theorem jxJ(ls:List Cls)(hn:ls.length<=10)(hl:∀c∈ls,c.length<=50):jv6 (ls.map clc)=some (.top,[.sl 3 (ls.flatten.map ltc)]):=by
 have r1:∀x:Cls,hR 3 (A.top,[.sl 3 (x.map ltc)]) 0=some (x.map ltc):=λx=>rfl;have rp:∀i,(hi:i<ls.length)->jec (ls.map clc) i 0=some (.sl 3 (ls[i].map ltc)):=λi hi=>by unfold jec;simp[hi]
 have hix:∀i,i<ls.length->pIx ls.length (vi (i:Nat))=some i:=λi hi=>jg7 hi;have hend:jmF (vi (ls.length:Nat)) (vi 0) [] (ls.map clc)=some (.top,[.sl 3 (ls.flatten.map ltc)]):=by
  have key:=upto (P:=λi=>∀R:Cls,R.length<=50*i->R++(ls.drop i).flatten=ls.flatten->jmF (vi (ls.length:Nat)) (vi (i:Nat)) (R.map ltc) (ls.map clc)=some (.top,[.sl 3 (ls.flatten.map ltc)])) (n:=ls.length) ?_ ?_ 0 (Nat.zero_le _) [] (Nat.zero_le _) (by rw[List.drop_zero];rfl)
  .exact key
  .intro R _ hR;rw[List.drop_length,List.flatten_nil,ZE]at hR;rw[jwY,hR];simp only[evz]
  .intro i hi ih R hRl hR;have hlt:(i:Int)<((ls.length:Nat):Int):=by omega
   have hck:ck ((i:Int)+1)=some (vi ((i+1:Nat):Int)):=jeY (by omega) (by omega);have hc:=hl _ (jcF hi);have hf:jcK (R.length+ls[i].length) 48=true:=jjg (by omega);have ha:jgo (R.map ltc) (ls[i].map ltc)=(R++ls[i]).map ltc:=by rw[jv];rfl
   have:=ih (R++ls[i]) (by rw[yM];omega) (by rw[jbs,<-Kx,<-jdb hi];exact hR)
   rw[jwY];simp only[evz,hlt,hix i hi,rp i hi,hf,ha,hck,this]
 have key:=upto (P:=λi=>∀z:Nat,z<=50*i->joC (vi (z:Nat)) (vi (ls.length:Nat)) (vi (i:Nat)) (ls.map clc)=some (.top,[.sl 3 (ls.flatten.map ltc)])) (n:=ls.length) ?_ ?_ 0 (Nat.zero_le _) 0 (Nat.zero_le _)
 .rw [jFI,jnb,jbw];exact key
 .intro z hz;have e:=jCu z (by omega);have r0:hR 3 (A.top,[.sl 3 []]) 0=some []:=rfl;rw[jwX];simp only[evz,e,r0,hend]
 .intro i hi ih z hz;have hlt:(i:Int)<((ls.length:Nat):Int):=by omega
  have hck:ck ((i:Int)+1)=some (vi ((i+1:Nat):Int)):=jeY (by omega) (by omega);have hc:=hl _ (jcF hi);have c1:ck ((z:Int)+((ls[i].length:Nat):Int))=some (vi ((z+ls[i].length:Nat):Int)):=jeY (by omega) (by omega);have hneg:¬((z+ls[i].length:Nat):Int)<0:=by omega
  have:=ih (z+ls[i].length) (by omega);rw[jwX];simp only[evz,hlt,hix i hi,rp i hi,c1,hneg,hck,this]
def LN(l:Cls):Prop:=l.length<=40/\ ∀x∈l,Bx x.2/\nodes x.2<=100
theorem LN.app{s:jem}(hs:je0 s=true){l:Cls}(h:LN l):∀x∈l.map (λx=>(x.1,Go.Proofs.YtjgmjdidbgcljaaGreatDoor.sub s x.2)),Bx x.2/\Tz x.2:=λx hx=>by
 obtain⟨y,hy,rfl⟩:=jN.1 hx;have hb:=(h.2 y hy).1;exact⟨hb.sub hs,AxT.sub_tz hs hb.ax (by have:=(h.2 y hy).2;omega)⟩
theorem jqI{s:jem}{l c:Cls}(h:jjw s l=some c):CN c/\Asc cmpL c:=⟨(jhD (jky h).1).1,(jky h).2⟩
theorem jyY(s:jem)(hs:je0 s=true)(l:Cls)(h:LN l):G 108 [sb s,.sl 3 (l.map ltc)]=jjl (jjw s l):=by
 have hl:=h.1;have happ:=h.app hs;have e1:=jnV (l.map λx=>(x.1,sub s x.2)) (by rw[jbw];omega) (λx hx=>(happ x hx).1.rx) λx hx=>(happ x hx).2;have e2:=jtC (jhe cmpL (l.map λx=>(x.1,sub s x.2))) (by have:=ji0 cmpL (l.map λx=>(x.1,sub s x.2));rw[jbw]at this;omega) λx hx=>(happ x (jiC.1 hx)).2;generalize hd:l.map (λx=>(x.1,sub s x.2))=d at *;have hdl:d.length=l.length:=by rw[<-hd,jbw]
 have key:=upto (P:=λi=>jrE (.sl 3 (l.map ltc)) (vi (l.length:Nat)) (vi (i:Nat)) (sbs s) ((d.take i).map ltc) []=jjl (if((l.drop i).all λx=>jfs (sub s x.2)) && jg1 (jhe cmpL d)then some (jhe cmpL d)else none)) (n:=l.length) ?_ ?_ 0 (Nat.zero_le _)
 .simp only[Int.natCast_zero,List.take_zero,List.map_nil,List.drop_zero]at key;unfold jjw;rw[hd,<-key,jG7];simp only[evz]
 .rw [jzG,<-hdl,List.take_length,hdl,List.drop_length,List.all_nil,Bool.true_and];rw[<-hdl];cases hv:jg1 (jhe cmpL d)<;>rw[hv]at e2
  .rw [ko Bool.false_ne_true]at e2⊢;have e2:G 156 [cm (jhe cmpL d)]=some (.tup [cz,vb false],[]):=e2;simp only[evz,e1,e2];rfl
  .rw [jc6 rfl]at e2⊢;have e2:G 156 [cm (jhe cmpL d)]=some (.tup [cm (jhe cmpL d),vb true],[]):=e2;simp only[evz,e1,e2];rfl
 .intro i hi ih;have hi2:i<d.length:=by omega
  have hlt:(i:Int)<((l.length:Nat):Int):=by omega
  have h5:=jef hi (by show l.length<=9223372036854775807;omega)
  have hb:=h.2 _ (jcF hi);have e3:=jh7 s hs l[i].2 hb.1.ax (by omega);have hdi:d[i]=(l[i].1,sub s l[i].2):=by simp only[<-hd,List.getElem_map]
  have ta:=jjI (f:=ltc) hi2;have tl:=take_len (f:=ltc) (Nat.le_of_lt hi2);have hf:jcK (i+1) 48=true:=jjg (by omega);rw[hdi]at ta;rw[jzG,jdb hi,jbq];cases hsm:jfs (sub s l[i].2)<;>rw[hsm]at e3
  .rw [Bool.false_and,Bool.false_and,ko Bool.false_ne_true];have e3:G 60 [sb s,tm l[i].2]=some (.tup [.agg [sv [],.sl 2 []],vb false],[]):=e3;simp only[evz,hlt,jaa hi,jgV,e3];rfl
  .rw [Bool.true_and];have e3:G 60 [sb s,tm l[i].2]=some (.tup [tm (sub s l[i].2),vb true],[]):=e3;generalize (d.take i).map ltc=R at *;generalize sub s l[i].2=u at *;rw[<-ih];simp only[evz,hlt,jaa hi,jgV,e3,tl,hf,ta,h5]
theorem jyZ(s:jem)(hs:je0 s=true)(l:Cls)(h:LN l):G 115 [sb s,.sl 3 (l.map ltc)]=jjl (jjw s l):=by
 have hl:=h.1;have happ:=h.app hs;have e1:=jiY (l.map λx=>(x.1,sub s x.2)) (by rw[jbw];omega) λx hx=>(happ x hx).2;have e2:=jiB (jhe cmpL (l.map λx=>(x.1,sub s x.2))) (by have:=ji0 cmpL (l.map λx=>(x.1,sub s x.2));rw[jbw]at this;omega) λx hx=>(happ x (jiC.1 hx)).2;generalize hd:l.map (λx=>(x.1,sub s x.2))=d at *;have hdl:d.length=l.length:=by rw[<-hd,jbw]
 have ld:∀l:Lt,jas (.elt (ltc l) 0)=some (vb l.1):=λl=>rfl;have ad:∀(l:Lt)(n:Nat),jeG (.elt (ltc l) 0) n=some (.elt (ltc l) n):=λl n=>by rw[jhj,jfO]
 have ld2:∀l:Lt,jar 2 (.elt (ltc l) 1)=some (tm l.2):=λl=>rfl;have key:=upto (P:=λi=>jrG (.sl 3 (l.map ltc)) (vi (i:Nat)) (sbs s) ((d.take i).map ltc) []=jjl (if((l.drop i).all λx=>jfs (sub s x.2)) && jg1 (jhe cmpL d)then some (jhe cmpL d)else none)) (n:=l.length) ?_ ?_ 0 (Nat.zero_le _)
 .simp only[Int.natCast_zero,List.take_zero,List.map_nil,List.drop_zero]at key;unfold jjw;rw[hd,<-key,jHb];simp only[evz]
 .have hlt:¬((l.length:Nat):Int)<((l.length:Nat):Int):=by omega
  rw[jzI,jT (by omega),List.drop_length,List.all_nil,Bool.true_and];cases hv:jg1 (jhe cmpL d)<;>rw[hv]at e2
  .rw [ko Bool.false_ne_true];simp only[evz,e1,e2];rfl
  .rw [jc6 rfl];simp only[evz,e1,e2];rfl
 .intro i hi ih;have hi2:i<d.length:=by omega
  have hlt:(i:Int)<((l.length:Nat):Int):=by omega
  have h5:=jef hi (by show l.length<=9223372036854775807;omega)
  have hb:=h.2 _ (jcF hi);have tz:=hb.1.tz (by omega);have tz2:=AxT.sub_tz hs hb.1.ax (by omega);have e3:=jia s (jhl hs).sz l[i].2 tz;have e4:=jqW (sub s l[i].2) tz2.wf tz2;rw[(hb.1.sub hs).atom]at e4;have hdi:d[i]=(l[i].1,sub s l[i].2):=by simp only[<-hd,List.getElem_map]
  have ta:=jjI (f:=ltc) hi2;have tl:=take_len (f:=ltc) (Nat.le_of_lt hi2);have hf:jcK (i+1) 48=true:=jjg (by omega);rw[hdi]at ta;rw[jzI,jdb hi,jbq];cases hsm:jfs (sub s l[i].2)<;>rw[hsm]at e4
  .rw [Bool.false_and,Bool.false_and,ko Bool.false_ne_true];simp only[evz,hlt,jaa hi,ad,ld2,e3,e4];rfl
  .rw [Bool.true_and];generalize (d.take i).map ltc=R at *;generalize sub s l[i].2=u at *;rw[<-ih];simp only[evz,hlt,jaa hi,ad,ld,ld2,e3,e4,tl,hf,ta,h5]
theorem jnY(s:jem)(hs:je0 s=true)(l:Cls)(h:LN l):G 63 [sb s,.sl 3 (l.map ltc)]=jjl (jk2 s l):=by
 have e1:=jyY s hs l h;unfold jk2;rw[g63];cases ha:jjw s l with
 |none=>
  rw[ha]at e1;have e1:G 108 [sb s,.sl 3 (l.map ltc)]=some (.tup [cz,vb false],[]):=e1;simp only[evz,e1];rfl
 |some c=>
  rw[ha]at e1;have e1:G 108 [sb s,.sl 3 (l.map ltc)]=some (.tup [cm c,vb true],[]):=e1;have hc:=(jqI ha).1;have e2:=jsy c hc;have e3:=jh9 (normC c) (by have:=hc.normC.1;omega) hc.normC.tz;rw[Option.bind_some];cases hn:jgN (normC c)<;>rw[hn]at e3
  .rw [ko Bool.false_ne_true];simp only[evz,e1,e2,e3];rfl
  .rw [jc6 rfl];simp only[evz,e1,e2,e3];rfl
theorem jm3(s:jem)(hs:je0 s=true)(l:Cls)(h:LN l):G 73 [sb s,.sl 3 (l.map ltc)]=jjl (jk2 s l):=by
 have e1:=jyZ s hs l h;unfold jk2;rw[g73];cases ha:jjw s l with
 |none=>
  rw[ha]at e1;have e1:G 115 [sb s,.sl 3 (l.map ltc)]=some (.tup [cz,vb false],[]):=e1;simp only[evz,e1];rfl
 |some c=>
  rw[ha]at e1;have e1:G 115 [sb s,.sl 3 (l.map ltc)]=some (.tup [cm c,vb true],[]):=e1;obtain⟨hc,hasc⟩:=jqI ha;have e2:=jn2 c hc hasc;have e3:=jj6 (normC c) hc.normC;rw[Option.bind_some];unfold jgN;cases hv:jg1 (normC c)<;>rw[hv]at e2
  .rw [Bool.false_and,ko Bool.false_ne_true];simp only[evz,e1,e2];rfl
  .rw [Bool.true_and];cases hn:jih (normC c)<;>rw[hn]at e3
   .rw [ko Bool.false_ne_true];simp only[evz,e1,e2,e3];rfl
   .rw [jc6 rfl];simp only[evz,e1,e2,e3];rfl
theorem jju(r:Option Cls):∃(c:Cls)(b:Bool),jjl r=some (.tup [cm c,vb b],[]):=by
 cases r with
 |none=>exact⟨[],false,rfl⟩
 |some c=>exact⟨c,true,rfl⟩
theorem jq7(r:Option jem):∃(u:jem)(b:Bool),jhB r=some (.tup [sb u,vb b],[])/\(b=true->r=some u)/\(b=false->r=none):=by
 cases r with
 |none=>exact⟨[],false,rfl,(λh=>by cases h),λ_=>rfl⟩
 |some u=>exact⟨u,true,rfl,(λ_=>rfl),λh=>by cases h⟩
def jIZ(f g:FuncId)(args:Xd):Prop:=∃r:Option Cls,G f args=jjl r/\G g args=jjl r/\ ∀x,r=some x->jgN x=true
def jnC(c:Cls)(i:Int):Bool:=inB 0 (((c.length:Nat):Int)-1) i
theorem jnD{c:Cls}{i:Int}(h:jnC c i=true):∃k:Nat,i=(k:Int)/\k<c.length:=by
 unfold jnC inB at h;rw[Yn,Q5,Q5]at h;exact⟨i.toNat,by omega,by omega⟩
theorem jis(c:Cls)(hl:c.length<=1000)(i:Int):G 53 [cm c,vi i]=some (vb (jnC c i),[]):=by
 have c1:ck (((c.length:Nat):Int)-1)=some (vi (((c.length:Nat):Int)-1)):=jeY (by omega) (by omega);have e:=jiF i 0 (((c.length:Nat):Int)-1);rw[g53];simp only[evz,c1,e];rfl
theorem LN.erase{c:Cls}(h:CN c)(i:Nat):LN (c.eraseIdx i):=⟨by have:=List.length_eraseIdx_le c i;have:=h.1;omega,λx hx=>by
 have:=h.2 x (List.mem_of_mem_eraseIdx hx);exact⟨this.1,by omega⟩⟩
theorem LN.append{a b:Cls}(ha:CN a)(hb:CN b)(i k:Nat):LN (a.eraseIdx i++b.eraseIdx k):=⟨by
 have:=List.length_eraseIdx_le a i;have:=List.length_eraseIdx_le b k;have:=ha.1;have:=hb.1;rw[yM];omega,λx hx=>by
 rcases Yo.1 hx with hx|hx
 .exact (LN.erase ha i).2 x hx
 .exact (LN.erase hb k).2 x hx⟩
theorem ldB(l:Lt):jas (.elt (ltc l) 0)=some (vb l.1):=rfl
theorem adL(l:Lt)(n:Nat):jeG (.elt (ltc l) 0) n=some (.elt (ltc l) n):=by rw[jhj,jfO]
theorem ldT(l:Lt):jar 2 (.elt (ltc l) 1)=some (tm l.2):=rfl
theorem hRl(x:Cls):hR 3 (A.top,[.sl 3 (x.map ltc)]) 0=some (x.map ltc):=rfl
theorem ldA(l:Lt):jas (.elt (ltc l) 2)=some (tms l.2.args):=rfl
theorem jke(l:Lt):jeG (.elt (ltc l) 1) 1=some (.elt (ltc l) 2):=rfl
theorem jlh(l:Lt)(b:Bool):G 67 [ltm l,vb b]=some (vb (decide (l.1=b) && decide (l.2.name=[61])),[]):=by
 rw[g67];by_cases h:l.1=b
 .rw [decide_eq_true h,Bool.true_and];simp only[evz,h]
 .rw [decide_eq_false h,Bool.false_and];simp only[evz,h]
theorem jtx{t:T}(hb:Bx t)(he:t.name=[61])(hn:nodes t<=30):t.args.length=2/\okT (jkg t)=true/\okT (jkX t)=true/\nodes (jkg t)<=30/\nodes (jkX t)<=30/\jda 2 (tms t.args) (vi 0)=some (.elt (jdd (jkg t)) 0)/\jda 2 (tms t.args) (vi 1)=some (.elt (jdd (jkX t)) 0):=by
 rcases hb with hb|hb
 rotate_left
 .rw [he]at hb;exact absurd hb.1 (by decide)
 obtain⟨f1,f2,f3,f4⟩:=jkh hb.2.1;have g1:=jjt f3;have g2:=jjt f4;exact⟨hb.2.1,hb.2.2 _ f3,hb.2.2 _ f4,by omega,by omega,f1,f2⟩
end Go.Proofs.YtjgmjdidbgcljaaGreatDoor
