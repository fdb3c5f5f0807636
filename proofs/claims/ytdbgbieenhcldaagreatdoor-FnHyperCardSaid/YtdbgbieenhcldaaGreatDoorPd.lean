/- Pd -/
import Derived.Test.YtdbgbieenhcldaaGreatDoorPb
import Derived.Test.YtdbgbieenhcldaaGreatDoorPq
namespace Go.Proofs.YtdbgbieenhcldaaGreatDoor
open Go Go.RowKit Go.Proofs.YtdbgbieenhcldaaGreatDoor.Abs
set_option linter.unusedSimpArgs false
set_option linter.unusedVariables false
set_option maxHeartbeats 1000000
theorem jhz (x y:List UInt8):(zF x y || decide (x=y))=!zF y x:=by
 rw [Zz,Zz];by_cases h1:x < y
 ·rw [decide_eq_true h1,decide_eq_false (λh2=>List.lt_irrefl _ (List.lt_trans h1 h2))];rfl
 ·by_cases h2:x=y
  ·subst h2;rw [decide_eq_false h1,decide_eq_true rfl];rfl
  ·rw [decide_eq_false h1,decide_eq_false h2,decide_eq_true (jwg h1 h2)];rfl
theorem jn9 (b:Bool) (x y:List UInt8):jp .leq b (sv x) (sv y)=some (vb (!zF y x)):=by rw [<-jhz];rfl
theorem jn8 (b:Bool) (x y:List UInt8):jp .geq b (sv x) (sv y)=some (vb (!zF x y)):=rfl
def Qa:Option (List UInt8)->ju->Bool
 | _,[]=>true
 | none,q::r=>jk q.1 && (kW q.2 && (!decide (q.2.name=q.1) && Qa (some q.1) r))
 | some m,q::r=>zF m q.1 && (jk q.1 && (kW q.2 && (!decide (q.2.name=q.1) && Qa (some q.1) r)))
def okB (q:List UInt8 × T):Bool:=jk q.1 && (kW q.2 && !decide (q.2.name=q.1))
theorem jf3:∀(s:ju) (m:List UInt8) (t:T),Qa (some m) s=(jif ((m,t)::s) && s.all okB)
 | [],m,t=>rfl
 | q::r,m,t=>by
  rw [Qa,jf3 r q.1 q.2,jif,List.all_cons,okB];cases zF m q.1<;>cases jk q.1<;>cases kW q.2<;>cases decide (q.2.name=q.1)<;>simp
theorem jf2 (s:ju):(Qa none s && decide (s.length<=12))=jy s:=by
 have hd:∀q:List UInt8 × T,dq q.2.name q.1=decide (q.2.name=q.1):=λq=>by
  by_cases h:q.2.name=q.1
  ·rw [qk.2 h,decide_eq_true h]
  ·rw [jdo.2 h,decide_eq_false h]
 have ha:s.all (λq=>jk q.1 && (kW q.2 && !dq q.2.name q.1))=s.all okB:=by
  unfold okB;congr 1;funext q;rw [hd]
 unfold jy;rw [ha];cases s with
 | nil=>rfl
 | cons q r=>
  rw [Qa,jf3 r q.1 q.2,List.all_cons];unfold okB;cases jk q.1<;>cases kW q.2<;>cases decide (q.2.name=q.1)<;>simp [Bool.and_comm]
def SzB (s:ju):Prop:=s.length<=1000000/\ ∀q∈s,q.1.length<=1000000/\Tz q.2
theorem SzB.sz {s:ju} (h:SzB s):Sz 1048576 s:=⟨by have:=h.1;omega,λq hq=>⟨by have:=(h.2 q hq).1;omega,(h.2 q hq).2⟩⟩
theorem zH {s:ju} (h:jy s=true):SzB s:=by
 obtain ⟨h1,_,h3⟩:=jF h;refine ⟨by omega,λq hq=>⟨?_,?_⟩⟩
 ·have:=jeL (h3 q hq).1;omega
 ·have:=jbj q.2 (Y3 (h3 q hq).2.1);have:=JH h q hq;unfold Tz;omega
theorem Jo (q:List UInt8 × T):jZ 3 (.elt (bc q) 0)=some (.agg [sv q.1,sv q.2.name,jY q.2.args]):=rfl
theorem jf7 (s:ju) (hs:SzB s):G 135 [sb s]=some (vb (jy s),[]):=by
 have hl:=hs.1;have key:=upto (P:=λi=>∀p:Option (List UInt8),(p=none↔i=0)->(∀m,p=some m-> ∃h:i - 1 < s.length,s[i - 1].1=m)->jgr (qD s) (vi (s.length:Nat)) (vi (i:Nat)) (qD s)=some (vb (Qa p (s.drop i) && decide (s.length<=12)),[])) (n:=s.length) ?_ ?_ 0 (Nat.zero_le _) none (by simp) (λm h=>by cases h)
 ·simp only [Int.natCast_zero,List.drop_zero] at key;rw [jf2] at key;rw [jzv];simp only [jd,key]
 ·intro p _ _;have e:decide (((s.length:Nat):Int)<=12)=decide (s.length<=12):=by congr 1;exact propext (by omega)
  have:Qa p []=true:=by cases p<;>rfl
  rw [jqi,List.drop_length,this,Bool.true_and,<-e];simp only [jd]
 ·intro i hi ih p hp hq;have hlt:(i:Int) < ((s.length:Nat):Int):=by omega
  have h5:=jr hi (by show s.length<=9223372036854775807;omega)
  have hm:=hs.2 _ (List.getElem_mem hi);have e1:=Ql s[i].1 (by show s[i].1.length<=9223372036854775807;omega);have e2:=Z4 s[i].2 hm.2.wf hm.2;have ih:=ih (some s[i].1) (by simp) (λm h=>by cases h;exact ⟨by simpa using hi,rfl⟩);rw [jqi,jo hi];have e3:decide (s[i].2.name=s[i].1)=decide (s[i].2.name=s[i].1):=rfl;generalize hn:decide (s[i].2.name=s[i].1)=nn at *;have e4:jp .eql false (sv s[i].2.name) (sv s[i].1)=some (vb nn):=by rw [jbk,hn]
  generalize hv:Qa (some s[i].1) (s.drop (i+1))=vv at *;cases p with
  | none=>
   have h0:¬(0:Int) < (i:Int):=by have:=hp.1 rfl;omega
   rw [Qa,hn,hv];cases hb:jk s[i].1<;>rw [hb] at e1
   ·simp only [jd,hlt,ja hi,Jo,e1,Bool.false_and]
   cases hk:kW s[i].2<;>rw [hk] at e2
   ·simp only [jd,hlt,ja hi,Jo,e1,e2,h0,Bool.false_and,Bool.true_and]
   cases nn
   ·simp only [jd,hlt,ja hi,Jo,e1,e2,h0,e4,h5,ih,Bool.true_and]
   ·simp only [jd,hlt,ja hi,Jo,e1,e2,h0,e4,Bool.false_and,Bool.true_and]
  | some m=>
   obtain ⟨hq1,rfl⟩:=hq m rfl;have h0:(0:Int) < (i:Int):=by
    have:¬i=0:=λh=>by have:=hp.2 h;cases this
    omega
   have c1:ck ((i:Int) - 1)=some (vi ((i - 1:Nat):Int)):=by rw [show (i:Int) - 1=((i - 1:Nat):Int) by omega];exact jG (by omega) (by omega)
   have e5:=jn9 false s[i].1 s[i - 1].1;rw [Qa,hn,hv];cases hb:jk s[i].1<;>rw [hb] at e1
   ·rw [Bool.false_and,Bool.and_false];simp only [jd,hlt,ja hi,Jo,e1,Bool.false_and]
   cases hc:zF s[i - 1].1 s[i].1<;>rw [hc] at e5
   ·simp only [jd,hlt,ja hi,ja hq1,Jo,zV,zq,e1,h0,c1,e5,Bool.false_and]
   cases hk:kW s[i].2<;>rw [hk] at e2
   ·simp only [jd,hlt,ja hi,ja hq1,Jo,zV,zq,e1,h0,c1,e5,e2,Bool.false_and,Bool.true_and]
   cases nn
   ·simp only [jd,hlt,ja hi,ja hq1,Jo,zV,zq,e1,h0,c1,e5,e2,e4,h5,ih,Bool.true_and]
   ·simp only [jd,hlt,ja hi,ja hq1,Jo,zV,zq,e1,h0,c1,e5,e2,e4,Bool.false_and,Bool.true_and]
theorem Y2 (s:ju) (hs:SzB s):G 184 [sb s]=some (vb (jy s),[]):=by
 have hl:=hs.1;have key:=upto (P:=λi=>∀p:Option (List UInt8),(p=none↔i=0)->(∀m,p=some m-> ∃h:i - 1 < s.length,s[i - 1].1=m)->jgE (vi (i:Nat)) (qD s)=some (vb (Qa p (s.drop i) && decide (s.length<=12)),[])) (n:=s.length) ?_ ?_ 0 (Nat.zero_le _) none (by simp) (λm h=>by cases h)
 ·simp only [Int.natCast_zero,List.drop_zero] at key;rw [jf2] at key;rw [jz5];simp only [jd,key]
 ·intro p _ _;have e:decide (((s.length:Nat):Int)<=12)=decide (s.length<=12):=by congr 1;exact propext (by omega)
  have:Qa p []=true:=by cases p<;>rfl
  rw [jqy,List.drop_length,this,Bool.true_and,<-e];simp only [jd]
 ·intro i hi ih p hp hq;have hlt:(i:Int) < ((s.length:Nat):Int):=by omega
  have h5:=jr hi (by show s.length<=9223372036854775807;omega)
  have hm:=hs.2 _ (List.getElem_mem hi);have e1:=zt s[i].1 (by show s[i].1.length<=9223372036854775807;omega);have e2:=YO s[i].2 hm.2.wf hm.2;have ih:=ih (some s[i].1) (by simp) (λm h=>by cases h;exact ⟨by simpa using hi,rfl⟩);rw [jqy,jo hi];generalize hn:decide (s[i].2.name=s[i].1)=nn at *;have e4:jp .eql false (sv s[i].2.name) (sv s[i].1)=some (vb nn):=by rw [jbk,hn]
  generalize hv:Qa (some s[i].1) (s.drop (i+1))=vv at *;cases p with
  | none=>
   have h0:¬(0:Int) < (i:Int):=by have:=hp.1 rfl;omega
   rw [Qa,hn,hv];cases hb:jk s[i].1<;>rw [hb] at e1
   ·simp only [jd,hlt,ja hi,Jo,e1,Bool.false_and]
   cases hk:kW s[i].2<;>rw [hk] at e2
   ·simp only [jd,hlt,ja hi,Jo,e1,e2,h0,Bool.false_and,Bool.true_and]
   cases nn
   ·simp only [jd,hlt,ja hi,Jo,e1,e2,h0,e4,h5,ih,Bool.true_and]
   ·simp only [jd,hlt,ja hi,Jo,e1,e2,h0,e4,Bool.false_and,Bool.true_and]
  | some m=>
   obtain ⟨hq1,rfl⟩:=hq m rfl;have h0:(0:Int) < (i:Int):=by
    have:¬i=0:=λh=>by have:=hp.2 h;cases this
    omega
   have c1:ck ((i:Int) - 1)=some (vi ((i - 1:Nat):Int)):=by rw [show (i:Int) - 1=((i - 1:Nat):Int) by omega];exact jG (by omega) (by omega)
   have e5:=jn8 false s[i - 1].1 s[i].1;rw [Qa,hn,hv];cases hb:jk s[i].1<;>rw [hb] at e1
   ·rw [Bool.false_and,Bool.and_false];simp only [jd,hlt,ja hi,Jo,e1,Bool.false_and]
   cases hk:kW s[i].2<;>rw [hk] at e2
   ·rw [Bool.false_and,Bool.and_false,Bool.and_false];simp only [jd,hlt,ja hi,ja hq1,Jo,zV,zq,e1,e2,Bool.false_and,Bool.true_and]
   cases nn
   ·cases hc:zF s[i - 1].1 s[i].1<;>rw [hc] at e5
    ·simp only [jd,hlt,ja hi,ja hq1,Jo,zV,zq,e1,h0,c1,e5,e2,e4,Bool.false_and]
    ·simp only [jd,hlt,ja hi,ja hq1,Jo,zV,zq,e1,h0,c1,e5,e2,e4,h5,ih,Bool.true_and]
   ·rw [Bool.not_true,Bool.false_and,Bool.and_false,Bool.and_false,Bool.and_false];simp only [jd,hlt,ja hi,ja hq1,Jo,zV,zq,e1,h0,c1,e5,e2,e4,Bool.false_and,Bool.true_and]
theorem jrq {α:Type} {R:α->α->Prop} (irr:∀a,¬R a a) (asy:∀a b,R a b-> ¬R b a):∀ {l m:List α},l.Pairwise R->m.Pairwise R->(∀x,x∈l↔x∈m)->l=m
 | [],[],_,_,_=>rfl
 | [],b::m,_,_,hx=>absurd ((hx b).2 (by simp)) (by simp)
 | a::l,[],_,_,hx=>absurd ((hx a).1 (by simp)) (by simp)
 | a::l,b::m,h1,h2,hx=>by
  obtain ⟨g1,g2⟩:=List.pairwise_cons.1 h1;obtain ⟨k1,k2⟩:=List.pairwise_cons.1 h2;have hab:a=b:=by
   rcases List.mem_cons.1 ((hx a).1 (by simp)) with e|e
   ·exact e
   rcases List.mem_cons.1 ((hx b).2 (by simp)) with e'|e'
   ·exact e'.symm
   ·exact (asy _ _ (k1 a e) (g1 b e')).elim
  subst hab;have:l=m:=jrq irr asy g2 k2 λx=>by
   constructor
   ·intro hxl;rcases List.mem_cons.1 ((hx x).1 (by simp [hxl])) with e|e
    ·exact (irr x (e ▸ g1 x hxl)).elim
    ·exact e
   ·intro hxm;rcases List.mem_cons.1 ((hx x).2 (by simp [hxm])) with e|e
    ·exact (irr x (e ▸ k1 x hxm)).elim
    ·exact e
  rw [this]
theorem K5 {x y z:List UInt8} (h1:zF x y=true) (h2:zF y z=true):zF x z=true:=by
 rw [Zz,decide_eq_true_eq] at *;exact List.lt_trans h1 h2
theorem jgT:∀ {s:ju},jif s=true->s.Pairwise λp q=>zF p.1 q.1=true
 | [],_=>List.Pairwise.nil
 | [p],_=>by simp
 | p::q::s,h=>by
  rw [jif,Bool.and_eq_true] at h;have ih:=jgT h.2;refine List.pairwise_cons.2 ⟨λx hx=> ?_,ih⟩;rcases List.mem_cons.1 hx with e|e
  ·rw [e];exact h.1
  ·exact K5 h.1 ((List.pairwise_cons.1 ih).1 x e)
theorem jxJ {m:Nat} (h:m<=2000000):Js .u64 (vi (m:Nat))=some (.val (.int .u64 (m:Nat))):=by
 show some (A.val (.int .u64 (IntKind.u64.wrap (m:Nat))))=_;have:IntKind.u64.wrap ((m:Nat):Int)=(m:Nat):=by
  unfold IntKind.wrap;simp [IntKind.bits,IntKind.signed];omega
 rw [this]
theorem jxK {m:Nat} (h:m<=2000000):jp .shr false (.val (.int .u64 (m:Nat))) (.val (.int .u64 1))=some (.val (.int .u64 ((m / 2:Nat):Int))):=by
 show some (A.val (.int .u64 (((m:Nat):Int).fdiv (2 ^ min 1 64))))=_;rw [Int.fdiv_eq_ediv_of_nonneg _ (by decide)];rfl
theorem jxL {m:Nat} (h:m<=2000000):Js .i64 (.val (.int .u64 (m:Nat)))=some (vi (m:Nat)):=jG (by omega) (by omega)
theorem jml (x y:List UInt8):kz x y < 0↔zF x y=true:=by
 unfold kz;cases h:zF x y with
 | true=>simp
 | false=>
  rw [if_neg Bool.false_ne_true];split<;>simp
theorem jjS (q:List UInt8 × T) (n:List UInt8):G 212 [.agg (bc q),sv n]=some (vi (kz q.1 n),[]):=by
 have e:=ZU q.1 n;rw [jAj];simp only [jd,e]
theorem jbV {s:ju} (hs:s.Pairwise λp q=>zF p.1 q.1=true) {n:List UInt8} {i:Nat} (h1:∀k,(h:k < s.length)->k < i->zF s[k].1 n=true) (h2:∀k,(h:k < s.length)->i<=k->zF s[k].1 n=false):look s n=if h:i < s.length then (if s[i].1=n then some s[i].2 else none) else none:=by
 have hne:∀k,(h:k < s.length)->k≠i->s[k].1≠n:=λk h hk e=>by
  rcases Nat.lt_or_ge k i with hl|hl
  ·have:=h1 k h hl;rw [e,YW] at this;cases this
  ·have hi:i < k:=by omega
   have:=(List.pairwise_iff_getElem.1 hs) i k (by omega) h hi;rw [e] at this;rw [h2 i (by omega) (Nat.le_refl _)] at this;cases this
 split
 ·rename_i hi;split
  ·rename_i he;have hm:(n,s[i].2)∈s:=by rw [<-he];exact List.getElem_mem hi
   cases hl:look s n with
   | none=>exact (qI.1 hl _ hm rfl).elim
   | some r=>
    obtain ⟨k,hk,e⟩:=List.mem_iff_getElem.1 (Kq hl);have:k=i:=Classical.byContradiction λh=>hne k hk h (by rw [e]);subst this;rw [e]
  ·rename_i he;refine qI.2 λp hp=> ?_;obtain ⟨k,hk,rfl⟩:=List.mem_iff_getElem.1 hp;by_cases h:k=i
   ·subst h;exact he
   ·exact hne k hk h
 ·rename_i hi;refine qI.2 λp hp=> ?_;obtain ⟨k,hk,rfl⟩:=List.mem_iff_getElem.1 hp;exact hne k hk (by omega)
theorem jjM (s:ju) (hl:s.length<=1000000) (hs:s.Pairwise λp q=>zF p.1 q.1=true) (n:List UInt8):∀(d i j:Nat),j - i<=d->i<=j->j<=s.length->(∀k,(h:k < s.length)->k < i->zF s[k].1 n=true)->(∀k,(h:k < s.length)->j<=k->zF s[k].1 n=false)->
  ∃(i':Nat) (b:Bool),jc4 (qD s) (sv n) (.fn 212 []) (vi (s.length:Nat)) (vi (i:Nat)) (vi (j:Nat))=some (.tup [vi (i':Nat),vb b],[])/\look s n=(if h:i' < s.length then (if b then some s[i'].2 else none) else none)/\(b=true->i' < s.length):=by
 intro d;induction d with
 | zero=>
  intro i j hd hij hj h1 h2;have hij:i=j:=by omega
  subst hij;have hlt:¬(i:Int) < (i:Int):=by omega
  have hp:K.pureF 212=true:=rfl;rw [jqC];by_cases hi:i < s.length
  ·have hi':(i:Int) < ((s.length:Nat):Int):=by omega
   have cc:DX.run K (MM K) (.callc (.fn 212 []) [.agg (bc s[i]),sv n] false)=some (vi (kz s[i].1 n)):=by
    rw [yN hp,List.append_nil,jjS];rfl
   refine ⟨i,decide (s[i].1=n),?_,?_,λ_=>hi⟩
   ·have hz:decide (kz s[i].1 n=0)=decide (s[i].1=n):=decide_eq_decide.2 (Jc.zero _ _);rw [<-hz];simp only [jd,hlt,hi',ja hi,Jo,cc]
   ·rw [jbV hs h1 h2,dif_pos hi,dif_pos hi];by_cases he:s[i].1=n
    ·rw [if_pos he,decide_eq_true he,if_pos rfl]
    ·rw [if_neg he,decide_eq_false he,if_neg Bool.false_ne_true]
  ·have hi':¬(i:Int) < ((s.length:Nat):Int):=by omega
   refine ⟨i,false,?_,?_,λh=>by cases h⟩
   ·simp only [jd,hlt,hi']
   ·rw [jbV hs h1 h2,dif_neg hi,dif_neg hi]
 | succ d ih=>
  intro i j hd hij hj h1 h2;by_cases hlt0:i < j;rotate_left
  ·exact ih i j (by omega) hij hj h1 h2
  have hlt:(i:Int) < (j:Int):=by omega
  have hp:K.pureF 212=true:=rfl;have hm:(i+j) / 2 < s.length:=by omega
  have c0:ck ((i:Int)+(j:Int))=some (vi ((i+j:Nat):Int)):=jG (by omega) (by omega);have c1:=jxJ (m:=i+j) (by omega);have c2:=jxK (m:=i+j) (by omega);have c3:=jxL (m:=(i+j) / 2) (by omega);have cc:DX.run K (MM K) (.callc (.fn 212 []) [.agg (bc s[(i+j) / 2]),sv n] false)=some (vi (kz s[(i+j) / 2].1 n)):=by
   rw [yN hp,List.append_nil,jjS];rfl
  have ix:=ja (k:=3) (f:=bc) hm;have hpw:=List.pairwise_iff_getElem.1 hs;rw [jqC];have hc:=jml s[(i+j) / 2].1 n;generalize hg:kz s[(i+j) / 2].1 n=c at *;generalize hme:(i+j) / 2=m at *;by_cases hneg:c < 0
  ·have hs1:=hc.1 hneg;have h5:ck ((m:Int)+1)=some (vi ((m+1:Nat):Int)):=jG (by omega) (by omega);have:=ih (m+1) j (by omega) (by omega) hj (λk hk hk2=>by
    by_cases e:k=m
    ·subst e;exact hs1
    ·exact K5 (hpw k m hk hm (by omega)) hs1) h2
   obtain ⟨i',b,e1,e2⟩:=this;exact ⟨i',b,by simp only [jd,hlt,c0,c1,c2,c3,ix,Jo,cc,hneg,h5];exact e1,e2⟩
  ·have hs1:zF s[m].1 n=false:=by
    cases h:zF s[m].1 n with
    | false=>rfl
    | true=>exact (hneg (hc.2 h)).elim
   have:=ih i m (by omega) (by omega) (by omega) h1 (λk hk hk2=>by
    by_cases e:k=m
    ·subst e;exact hs1
    ·cases h:zF s[k].1 n with
     | false=>rfl
     | true=>rw [K5 (hpw m k hm hk (by omega)) h] at hs1;cases hs1)
   obtain ⟨i',b,e1,e2⟩:=this;exact ⟨i',b,by simp only [jd,hlt,c0,c1,c2,c3,ix,Jo,cc,hneg];exact e1,e2⟩
def outT (o:Option T):Option Out:=match o with|some t=>some (.tup [tm t,vb true],[])|none=>some (.tup [.agg [sv [],.sl 2 []],vb false],[])
theorem jeG (s:ju) (hs:jy s=true) (n:List UInt8):G 182 [sb s,sv n]=outT (look s n):=by
 have hl:=(jF hs).1;obtain ⟨i,b,e1,e2,e3⟩:=jjM s (by omega) (jgT (jF hs).2.1) n s.length 0 s.length (by omega) (Nat.zero_le _) (Nat.le_refl _) (λk _ h=>by omega) (λk h1 h2=>by omega);simp only [Int.natCast_zero] at e1;have e4:G 211 [qD s,sv n,.fn 212 []]=some (.tup [vi (i:Nat),vb b],[]):=by
  rw [jAi];simp only [jd,e1]
 rw [jz3,e2];cases b with
 | false=>
  have:(if h:i < s.length then (if false=true then some s[i].2 else none) else none)=(none:Option T):=by split<;>simp
  rw [this];simp only [jd,e4];rfl
 | true=>
  have hi:=e3 rfl;rw [dif_pos hi,if_pos rfl];simp only [jd,e4,ja hi,zV,Zq];rfl
theorem jfc (s:ju) (hs:jy s=true):∀t:T,Rx' t->Tz t->G 178 [sb s,tm t]=some (tm (sub s t),[]):=by
 refine T.ind λt ih hk ht=> ?_;have hz:=ht;unfold Tz at hz;rw [kO] at hz;rw [jzZ];by_cases ha:t.args = []
 ·have e1:=jeG s hs t.name;have h0:zu (jY t.args)=some (vi 0):=by rw [ha];rfl
  cases hl:look s t.name with
  | some r=>
   rw [hl] at e1;have e1:G 182 [sb s,sv t.name]=some (.tup [tm r,vb true],[]):=e1;have hv:jk t.name=true:=((jF hs).2.2 _ (Kq hl)).1;have e2:=ZW r ((zH hs).2 _ (Kq hl)).2;have:sub s t=r:=by rw [qX hv,Ji,hl];rfl
   rw [this];simp only [jd,h0,e1,e2]
  | none=>
   rw [hl] at e1;have e1:G 182 [sb s,sv t.name]=some (.tup [.agg [sv [],.sl 2 []],vb false],[]):=e1;have:sub s t = .mk t.name []:=by
    cases hv:jk t.name with
    | true=>rw [qX hv,Ji,hl];rfl
    | false=>rw [yB hv,ha];rfl
   rw [this];simp only [jd,h0,e1];rfl
 ·have hv:jk t.name=false:=by
   cases hv:jk t.name with
   | false=>rfl
   | true=>exact (ha (hk.va hv)).elim
  have hpos:0 < t.args.length:=by
   cases h:t.args with
   | nil=>exact (ha h).elim
   | cons _ _=>simp
  have h0:¬((t.args.length:Nat):Int)=0:=by omega
  rw [yB hv];generalize hus:t.args.map (sub s)=us at *;have hul:us.length=t.args.length:=by rw [<-hus,List.length_map]
  have hm:=jbo (b:=40) (n:=t.args.length) (by omega) (by omega);have hz0:(0:Int) < ((t.args.length:Nat):Int):=by omega
  have step:∀i,(hi:i < t.args.length)->G 178 [sb s,tm t.args[i]]=some (tm (us[i]'(by omega)),[]):=λi hi=>by
   rw [ih t.args[i] (List.getElem_mem _) (hk.args _ (List.getElem_mem _)) (ht.args _ (List.getElem_mem _))];simp only [<-hus,List.getElem_map]
  have stepR:∀i,(hi:i < t.args.length)->Ke (part jz [sv [],.sl 2 []] us i).length (vi (i:Nat))=some i/\je2 (part jz [sv [],.sl 2 []] us i) i=some [sv [],.sl 2 []]/\J2 (part jz [sv [],.sl 2 []] us i) i [sv (us[i]'(by omega)).name,jY (us[i]'(by omega)).args]=part jz [sv [],.sl 2 []] us (i+1):=λi hi=>by
   have h4:=jjk (f:=jz) (z:=[sv [],.sl 2 []]) (xs:=us) (i:=i) (by omega);rw [kK] at h4;refine ⟨zi (by rw [jb0 (by omega)];omega),jjj (by omega),h4⟩
  have key:=(upto (P:=λi=>1<=i->jkr (jY t.args) (vi (t.args.length:Nat)) (vi (i:Nat)) (qD s) (sv []) (sv t.name) [] (part jz [sv [],.sl 2 []] us i)=some (tm (.mk t.name us),[])) (n:=t.args.length) ?_ ?_ 1 hpos (Nat.le_refl _));rotate_left
  ·intro _;rw [jqw,<-hul,jji];simp only [jd];rfl
  ·intro i hi ih' _;have hlt:(i:Int) < ((t.args.length:Nat):Int):=by omega
   have h5:=jr hi (by show t.args.length<=9223372036854775807;omega)
   have e2:=step i hi;obtain ⟨h2,h3,h4⟩:=stepR i hi;have ih':=ih' (by omega);rw [jqw];simp only [jd,hlt,ja hi,jl,e2,h2,h3,jah,h4,h5,ih']
  have e2:=step 0 hpos;obtain ⟨h2,h3,h4⟩:=stepR 0 hpos;rw [<-jfI] at h2 h3 h4;simp only [Int.natCast_zero,Nat.zero_add] at h2 h4 key;have ix:=ja (k:=2) (f:=jz) hpos;simp only [Int.natCast_zero] at ix;have h5:ck (0+1)=some (vi ((1:Nat):Int)):=jG (n:=0+1) (by omega) (by omega);have first:jkq (jY t.args) (vi (t.args.length:Nat)) (vi 0) (qD s) (sv []) (sv t.name) (J1 us.length [sv [],.sl 2 []]) []=some (tm (.mk t.name us),[]):=by
   rw [jwc];simp only [jd,hz0,ix,jl,e2,h2,h3,jah,h4,h5,key]
  rw [hul] at first
  simp only [jd,h0,hm,first]
theorem jwE (s:ju):∀t:T,Rx' t->nodes t<=nodes (sub s t)/\yI t<=yI (sub s t):=by
 refine T.ind λt ih hk=> ?_;cases hv:jk t.name with
 | true=>
  have ha:=hk.va hv;rw [jP t,JW t,ha];have:=K1 (sub s t);have:=JW (sub s t);simp only [jD,KB];omega
 | false=>
  have hL:∀us:List T,(∀u∈us,nodes u<=nodes (sub s u)/\yI u<=yI (sub s u))->jD us<=jD (us.map (sub s))/\KB us<=KB (us.map (sub s)):=by
   intro us;induction us with
   | nil=>intro _;exact ⟨Nat.le_refl _,Nat.le_refl _⟩
   | cons v vs ih2=>
    intro h;have h1:=h v (by simp);have h2:=ih2 λw hw=>h w (by simp [hw]);simp only [List.map_cons,jD,KB];omega
  have:=hL t.args λu hu=>ih u hu (hk.args u hu);rw [jP t,JW t,jP (sub s t),JW (sub s t),K6 hv];omega
def qw (t:T):Prop:=z6 t=true\/(t.name = [61]/\t.args.length=2/\ ∀u∈t.args,z6 u=true)
theorem qw.rx {t:T} (h:qw t):Rx' t:=h.elim Or.inl λh=>Or.inr ⟨h.1,h.2.2⟩
theorem qw.tz {t:T} (h:qw t) (hn:nodes t<=100000):Tz t:=by
 rcases h with h|h
 ·have:=jbj t h;unfold Tz;omega
 ·unfold Tz;rw [jP] at hn;rw [kO,h.1,h.2.1];have:=jmQ h.2.2;simp only [List.length_cons,List.length_nil];omega
theorem qw.sub {s:ju} (hs:jy s=true) {t:T} (h:qw t):qw (sub s t):=by
 rcases h with h|h
 ·exact Or.inl (Yx (qf hs) t h)
 ·have hvn:jk t.name=false:=by rw [h.1];decide
  right;rw [yB hvn];refine ⟨h.1,by show (t.args.map _).length=2;rw [List.length_map,h.2.1],λu hu=> ?_⟩;obtain ⟨a,ha,rfl⟩:=List.mem_map.1 hu;exact Yx (qf hs) a (h.2.2 a ha)
theorem qw.sub_tz {s:ju} (hs:jy s=true) {t:T} (h:qw t) (hn:nodes t<=3000):Tz (Go.Proofs.YtdbgbieenhcldaaGreatDoor.sub s t):=by
 have:=joD (u:=s) (Z:=30) (by decide) (JH hs) t;exact (h.sub hs).tz (by omega)
theorem jox {s:ju} {t:T} (h:Rx' t) (hs:jE (sub s t)=true):jE t=true:=by
 have:=jwE s t h;simp only [jE,Bool.and_eq_true,decide_eq_true_eq] at hs ⊢;omega
theorem zI (s:ju) (hs:jy s=true) (t:T) (h:qw t) (hn:nodes t<=3000):G 139 [sb s,tm t]=outT (if jE (sub s t) then some (sub s t) else none):=by
 have ht:=h.tz (by omega);have hu:=h.sub_tz hs hn;have e1:=jfc s hs t h.rx ht;have e2:=Qy (sub s t) hu.wf hu;rw [jzz];cases hsm:jE (sub s t)<;>rw [hsm] at e2
 ·rw [if_neg Bool.false_ne_true];simp only [jd,e1,e2];rfl
 ·rw [if_pos rfl];simp only [jd,e1,e2];rfl
theorem zZ (s:ju) (hs:jy s=true) (t:T) (h:qw t) (hn:nodes t<=3000):G 150 [sb s,tm t]=outT (if jE (sub s t) then some (sub s t) else none):=by
 have ht:=h.tz (by omega);have hu:=h.sub_tz hs hn;have e0:=Y2 s (zH hs);have e1:=jmf ht h;have e2:=Zn s (zH hs).sz t ht;have e3:=jmf hu (h.sub hs);rw [hs] at e0;rw [jzG];cases hsm:jE (sub s t)<;>rw [hsm] at e3
 ·rw [if_neg Bool.false_ne_true];cases hs1:jE t<;>rw [hs1] at e1
  ·simp only [jd,e0,e1];rfl
  ·simp only [jd,e0,e1,e2,e3];rfl
 ·rw [if_pos rfl];rw [jox h.rx hsm] at e1;simp only [jd,e0,e1,e2,e3];rfl
abbrev LtB (p q:List UInt8 × T):Prop:=zF p.1 q.1=true
theorem jb2 (n:List UInt8) (t:T):∀s:ju,s.Pairwise LtB->(∀q∈s,q.1≠n)->(KI s n t).Pairwise LtB
 | [],_,_=>by unfold KI;simp
 | p::s,h,hn=>by
  obtain ⟨h1,h2⟩:=List.pairwise_cons.1 h;cases hc:zF p.1 n with
  | true=>
   have e:KI (p::s) n t=p::KI s n t:=by
    unfold KI;rw [List.takeWhile_cons_of_pos (p:=λp:List UInt8 × T=>zF p.1 n) hc,List.dropWhile_cons_of_pos (p:=λp:List UInt8 × T=>zF p.1 n) hc,List.cons_append]
   rw [e];refine List.pairwise_cons.2 ⟨λx hx=> ?_,jb2 n t s h2 λq hq=>hn q (by simp [hq])⟩;rcases jep.1 hx with hx|hx
   ·exact h1 x hx
   ·rw [hx];exact hc
  | false=>
   have e:KI (p::s) n t=(n,t)::p::s:=by
    unfold KI;rw [List.takeWhile_cons_of_neg (p:=λp:List UInt8 × T=>zF p.1 n) (by simp [hc]),List.dropWhile_cons_of_neg (p:=λp:List UInt8 × T=>zF p.1 n) (by simp [hc])];rfl
   have hlt:zF n p.1=true:=by
    have h3:=jhz n p.1;rw [hc] at h3;have h4:decide (n=p.1)=false:=decide_eq_false λe=>hn p (by simp) e.symm;rw [h4,Bool.or_false] at h3;exact h3
   rw [e];refine List.pairwise_cons.2 ⟨λx hx=> ?_,h⟩;rcases List.mem_cons.1 hx with e|e
   ·rw [e];exact hlt
   ·exact K5 hlt (h1 x e)
theorem Zr:∀(m s:ju),s.Pairwise LtB->(m.map Prod.fst).Nodup->(∀p∈m,∀q∈s,q.1≠p.1)->(m.foldl (λs p=>Kf s p.1 p.2) s).Pairwise LtB
 | [],s,h,_,_=>h
 | p::m,s,h,hn,hd=>by
  rw [List.map_cons,List.nodup_cons] at hn;rw [List.foldl_cons];by_cases he:p.2.name=p.1
  ·have:Kf s p.1 p.2=s:=if_pos he;rw [this];exact Zr m s h hn.2 λq hq r hr=>hd q (by simp [hq]) r hr
  ·have:Kf s p.1 p.2=KI s p.1 p.2:=if_neg he;rw [this];refine Zr m _ (jb2 p.1 p.2 s h (hd p (by simp))) hn.2 λq hq r hr=> ?_;rcases jep.1 hr with hr|hr
   ·exact hd q (by simp [hq]) r hr
   ·rw [hr];intro e;exact hn.1 (List.mem_map.2 ⟨q,hq,e.symm⟩)
theorem QK:∀(m s:ju),m.foldl (λs p=>Kf s p.1 p.2) s=(m.filter λp=> !decide (p.2.name=p.1)).foldl (λs p=>Kf s p.1 p.2) s
 | [],s=>rfl
 | p::m,s=>by
  rw [List.foldl_cons,List.filter_cons];by_cases he:p.2.name=p.1
  ·rw [if_neg (by simp [he]),show Kf s p.1 p.2=s from if_pos he];exact QK m s
  ·rw [if_pos (by simp [he]),List.foldl_cons];exact QK m _
theorem jhC {l s:ju} (hn:(l.map Prod.fst).Nodup) (hk:∀p∈l,p.2.name≠p.1) (hp:s.Perm l) (hs:s.Pairwise λa b=>¬kz b.1 a.1 < 0):s=QJ l:=by
 have h1:=Zr l [] List.Pairwise.nil hn λp _ q h=>by cases h
 have h2:=(Ks l [] hk).2;refine jrq (R:=LtB) (λa h=>by unfold LtB at h;rw [YW] at h;cases h) (λa b h h'=>by have:=K5 h h';rw [YW] at this;cases this) ?_ h1 λx=> ?_
 ·have hne:s.Pairwise λa b=>a.1≠b.1:=by
   have:(s.map Prod.fst).Nodup:=(hp.map Prod.fst).nodup_iff.2 hn;rw [List.nodup_iff_pairwise_ne] at this;exact List.pairwise_map.1 this
  refine (hs.and hne).imp λ{a b} h=> ?_;have h3:=jhz a.1 b.1;rw [decide_eq_false h.2,Bool.or_false] at h3;show zF a.1 b.1=true;rw [h3];cases hc:zF b.1 a.1 with
  | false=>rfl
  | true=>exact (h.1 ((jml _ _).2 hc)).elim
 ·rw [hp.mem_iff];have:=h2 x;simp only [List.not_mem_nil,false_or] at this;exact this.symm
def kY (o:Option ju):Option Out:=match o with|some s=>some (.tup [sb s,vb true],[])|none=>some (.tup [.agg [.sl 3 []],vb false],[])
theorem jmT {n:Nat} (h:n<=1000000):jB n 56=true:=jlg (by omega)
theorem jqN (p q:List UInt8 × T):G 183 [.agg (bc p),.agg (bc q)]=some (vi (kz p.1 q.1),[]):=by
 have e:=ZU p.1 q.1;rw [jz4];simp only [jd,e]
def jfp (l:ju):ju:=l.filter λp=> !decide (p.2.name=p.1)
theorem Yb {s:ju} (h:jy s=true):(s.map Prod.fst).Nodup:=by
 rw [List.nodup_iff_pairwise_ne,List.pairwise_map];exact (jgT (jF h).2.1).imp λ{a b} h e=>by rw [e,YW] at h;cases h
def Km (s u:ju):ju:=jfp (s.map λq=>(q.1,sub u q.2))++u.filter λq=>(look s q.1).isNone
theorem jmu {s u:ju} (hu:jy u=true):QJ (Km s u)=ky s u:=by
 unfold ky Km;unfold QJ;rw [List.foldl_append,List.foldl_append,QK (s.map _)];rfl
theorem jdv {s u:ju} (hs:jy s=true) (hu:jy u=true):(Km s u).length<=24/\((Km s u).map Prod.fst).Nodup/\(∀p∈Km s u,p.2.name≠p.1)/\ ∀p∈Km s u,p.1.length<=1000000/\Tz p.2:=by
 obtain ⟨ls,_,vs⟩:=jF hs;obtain ⟨lu,_,vu⟩:=jF hu;have hs2:∀p∈jfp (s.map λq=>(q.1,sub u q.2)),p.2.name≠p.1/\ ∃q∈s,p.1=q.1/\p.2=sub u q.2:=λp hp=>by
  obtain ⟨h1,h2⟩:=List.mem_filter.1 hp;obtain ⟨q,hq,rfl⟩:=List.mem_map.1 h1;exact ⟨by simpa using h2,q,hq,rfl,rfl⟩
 refine ⟨?_,?_,λp hp=> ?_,λp hp=> ?_⟩
 ·unfold Km jfp;have h1:=List.length_filter_le (λp:List UInt8 × T=> !decide (p.2.name=p.1)) (s.map λq=>(q.1,sub u q.2));have h2:=List.length_filter_le (λq:List UInt8 × T=>(look s q.1).isNone) u;rw [List.length_append];rw [List.length_map] at h1;omega
 ·unfold Km;rw [List.map_append];refine List.nodup_append.2 ⟨?_,?_,λa ha b hb=> ?_⟩
  ·have:((jfp (s.map λq=>(q.1,sub u q.2))).map Prod.fst).Sublist (s.map Prod.fst):=by
    have h:=(List.filter_sublist (p:=λp:List UInt8 × T=> !decide (p.2.name=p.1)) (l:=s.map λq=>(q.1,sub u q.2))).map Prod.fst;rw [List.map_map] at h;exact h
   exact (Yb hs).sublist this
  ·exact (Yb hu).sublist (List.filter_sublist.map Prod.fst)
  ·obtain ⟨p,hp,rfl⟩:=List.mem_map.1 ha;obtain ⟨q,hq,rfl⟩:=List.mem_map.1 hb;obtain ⟨_,r,hr,e,_⟩:=hs2 p hp;have h3:=(List.mem_filter.1 hq).2;rw [Option.isNone_iff_eq_none] at h3;intro e2;exact qI.1 h3 r hr (by rw [<-e,e2])
 ·rcases List.mem_append.1 hp with hp|hp
  ·exact (hs2 p hp).1
  ·exact (vu p (List.mem_filter.1 hp).1).2.2
 ·rcases List.mem_append.1 hp with hp|hp
  ·obtain ⟨_,q,hq,e1,e2⟩:=hs2 p hp;rw [e1,e2];have h1:=(zH hs).2 q hq;exact ⟨h1.1,qw.sub_tz hu (Or.inl (qf hs q hq)) (by have:=JH hs q hq;omega)⟩
  ·exact (zH hu).2 p (List.mem_filter.1 hp).1
theorem jmm {s u:ju} (hs:jy s=true) (hu:jy u=true):SzB (ky s u):=by
 obtain ⟨h1,h2,h3,h4⟩:=jdv hs hu;rw [<-jmu hu];obtain ⟨f1,f2⟩:=Ks (Km s u) [] h3;refine ⟨by unfold QJ;rw [f1];simp;omega,λq hq=> ?_⟩;have:=(f2 q).1 hq;simp only [List.not_mem_nil,false_or] at this;exact h4 q this
theorem Kj (s u:ju) (hs:jy s=true) (hu:jy u=true):G 143 [sb s,sb u]=kY (if jy (ky s u) then some (ky s u) else none):=by
 obtain ⟨g1,g2,g3,g4⟩:=jdv hs hu;have ls:=(jF hs).1;have lu:=(jF hu).1;obtain ⟨so,p1,p2,p3⟩:=jiu Jc Prod.fst bc 3 183 rfl (Km s u) (by omega) λx _ y _=>jqN x y;have hso:=jhC g2 g3 p1 p2;rw [jmu hu] at hso;subst hso;have e1:=jf7 (ky s u) (jmm hs hu);have fin:ja2 (qD u) (vi (u.length:Nat)) (vi (u.length:Nat)) (qD s) [] ((Km s u).map bc)=kY (if jy (ky s u) then some (ky s u) else none):=by
  have hC:jkh ((Km s u).map bc)=some (.top,[.sl 3 ((ky s u).map bc)]):=by rw [jvK];exact p3
  have r1:hR 3 (A.top,[.sl 3 ((ky s u).map bc)]) 0=some ((ky s u).map bc):=rfl;rw [jqn];cases hv:jy (ky s u)<;>rw [hv] at e1
  ·rw [if_neg Bool.false_ne_true];have e1:(G 135 [sb (ky s u)]).bind (fin true)=some (vb false):=by rw [e1];rfl
   simp only [jd,hC,r1,e1];rfl
  ·rw [if_pos rfl];have e1:(G 135 [sb (ky s u)]).bind (fin true)=some (vb true):=by rw [e1];rfl
   simp only [jd,hC,r1,e1];rfl
 have k1:=upto (P:=λi=>∀R:ju,R.length<=12+i->R++(u.drop i).filter (λq=>(look s q.1).isNone)=Km s u->ja2 (qD u) (vi (u.length:Nat)) (vi (i:Nat)) (qD s) [] (R.map bc)=kY (if jy (ky s u) then some (ky s u) else none)) (n:=u.length) ?_ ?_ 0 (Nat.zero_le _);rotate_left
 ·intro R _ hR;rw [List.drop_length,List.filter_nil,List.append_nil] at hR;rw [hR];exact fin
 ·intro i hi ih R hRl hR;have hlt:(i:Int) < ((u.length:Nat):Int):=by omega
  have h5:ck ((i:Int)+1)=some (vi ((i+1:Nat):Int)):=jG (by omega) (by omega);have e2:=jeG s hs u[i].1;rw [jo hi,List.filter_cons] at hR;rw [jqn];cases hl:look s u[i].1 with
  | some r=>
   rw [hl] at e2 hR;have e2:G 182 [sb s,sv u[i].1]=some (.tup [tm r,vb true],[]):=e2;rw [if_neg (by simp)] at hR;have:=ih R (by omega) hR;simp only [jd,hlt,ja hi,Jo,e2,h5,this]
  | none=>
   rw [hl] at e2 hR;have e2:G 182 [sb s,sv u[i].1]=some (.tup [.agg [sv [],.sl 2 []],vb false],[]):=e2;rw [if_pos (by simp)] at hR;have:=ih (R++[u[i]]) (by rw [List.length_append];simp only [List.length_cons,List.length_nil];omega) (by rw [List.append_assoc];exact hR);have e3:=ZW u[i].2 ((zH hu).2 _ (List.getElem_mem hi)).2;have hf:jB (R.length+1) 56=true:=jmT (by omega);have ha:jL (R.map bc) [[sv u[i].1,sv u[i].2.name,jY u[i].2.args]]=(R++[u[i]]).map bc:=by rw [List.map_append];rfl
   simp only [jd,hlt,ja hi,Jo,e2,e3];generalize hB:j7 _ _ _=B;have hB':B=some (.agg (bc u[i])):=by rw [<-hB];kernel_rfl
   rw [hB'];simp only [jd,hf,ha,h5,this]
 have k0:=upto (P:=λi=>∀R:ju,R.length<=i->R++(jfp ((s.drop i).map λq=>(q.1,sub u q.2))++u.filter λq=>(look s q.1).isNone)=Km s u->jcX (qD s) (vi (s.length:Nat)) (vi (i:Nat)) (qD s) (qD u) [] (R.map bc)=kY (if jy (ky s u) then some (ky s u) else none)) (n:=s.length) ?_ ?_ 0 (Nat.zero_le _) [] (Nat.zero_le _) rfl
 ·simp only [Int.natCast_zero,List.map_nil] at k0;rw [jzC];simp only [jd,k0]
 ·intro R hRl hR;have:=k1 R (by omega) (by rw [List.drop_zero];rw [List.drop_length] at hR;exact hR);simp only [Int.natCast_zero] at this;rw [jqm];simp only [jd,this]
 ·intro i hi ih R hRl hR;have hlt:(i:Int) < ((s.length:Nat):Int):=by omega
  have h5:ck ((i:Int)+1)=some (vi ((i+1:Nat):Int)):=jG (by omega) (by omega);have hm:=(zH hs).2 _ (List.getElem_mem hi);have e2:=jfc u hu s[i].2 (Or.inl (qf hs _ (List.getElem_mem hi))) hm.2;rw [jo hi,List.map_cons,jfp,List.filter_cons] at hR;rw [jqm];by_cases he:(sub u s[i].2).name=s[i].1
  ·rw [if_neg (by simp [he])] at hR;have:=ih R (by omega) hR;simp only [jd,hlt,ja hi,Jo,e2,he,h5,this]
  ·rw [if_pos (by simp [he])] at hR;have:=ih (R++[(s[i].1,sub u s[i].2)]) (by rw [List.length_append];simp only [List.length_cons,List.length_nil];omega) (by rw [List.append_assoc];exact hR);have hf:jB (R.length+1) 56=true:=jmT (by omega);have ha:jL (R.map bc) [[sv s[i].1,sv (sub u s[i].2).name,jY (sub u s[i].2).args]]=(R++[(s[i].1,sub u s[i].2)]).map bc:=by rw [List.map_append];rfl
   simp only [jd,hlt,ja hi,Jo,e2,he,hf,ha,h5,this]
theorem jhd (s u:ju) (hs:jy s=true) (hu:jy u=true):G 214 [sb s,sb u]=some (sb (ky s u),[]):=by
 have ls:=(jF hs).1;have lu:=(jF hu).1;have r1:∀x:ju,hR 3 (A.top,[qD x]) 0=some (x.map bc):=λx=>rfl;have k1:=upto (P:=λi=>∀R:ju,R.length<=12+i->(∀q∈R,Tz q.2)->jc5 (vi (i:Nat)) (qD s) (qD u) [] (R.map bc)=some (sb (((u.drop i).filter λq=>(look s q.1).isNone).foldl (λs p=>Kf s p.1 p.2) R),[])) (n:=u.length) ?_ ?_ 0 (Nat.zero_le _);rotate_left
 ·intro R _ _;rw [jqF,List.drop_length];simp only [jd];rfl
 ·intro i hi ih R hR hz;have hlt:(i:Int) < ((u.length:Nat):Int):=by omega
  have h5:ck ((i:Int)+1)=some (vi ((i+1:Nat):Int)):=jG (by omega) (by omega);have hm:=(zH hu).2 _ (List.getElem_mem hi);rw [jqF,jo hi,List.filter_cons];rcases jfu s (by omega) u[i].1 with ⟨h1,h2⟩|⟨k,hk,h1,h2⟩
  ·have e3:=jmY R (by omega) u[i].1 u[i].2 hm.2;have:=ih (Kf R u[i].1 u[i].2) (by have:=jjp R u[i].1 u[i].2;omega) λq hq=>(jjq hq).elim (hz q) λe=>by rw [e];exact hm.2
   rw [h1,if_pos (by simp),List.foldl_cons];simp only [jd,hlt,ja hi,zV,zq,Zq,h2,e3,r1,h5,this]
  ·have:=ih R (by omega) hz;have hk0:¬((k:Nat):Int) < 0:=by omega
   rw [h1,if_neg (by simp)];simp only [jd,hlt,ja hi,zV,zq,h2,hk0,h5,this]
 have k0:=upto (P:=λi=>∀R:ju,R.length<=i->(∀q∈R,Tz q.2)->jgJ (vi (i:Nat)) (qD s) (qD u) [] (R.map bc)=some (sb ((u.filter λq=>(look s q.1).isNone).foldl (λs p=>Kf s p.1 p.2) (((s.drop i).map λq=>(q.1,sub u q.2)).foldl (λs p=>Kf s p.1 p.2) R)),[])) (n:=s.length) ?_ ?_ 0 (Nat.zero_le _) [] (Nat.zero_le _) (λq h=>by cases h)
 ·simp only [Int.natCast_zero,List.map_nil,List.drop_zero] at k0;rw [jAl];simp only [jd,k0];rw [<-List.foldl_append];rfl
 ·intro R hR hz;have:=k1 R (by omega) hz;simp only [Int.natCast_zero,List.drop_zero] at this;rw [jqE,List.drop_length];simp only [jd,this];rfl
 ·intro i hi ih R hR hz;have hlt:(i:Int) < ((s.length:Nat):Int):=by omega
  have h5:ck ((i:Int)+1)=some (vi ((i+1:Nat):Int)):=jG (by omega) (by omega);have hm:=(zH hs).2 _ (List.getElem_mem hi);have ht:Tz (sub u s[i].2):=qw.sub_tz hu (Or.inl (qf hs _ (List.getElem_mem hi))) (by have:=JH hs _ (List.getElem_mem hi);omega);have e2:=Zn u (zH hu).sz s[i].2 hm.2;have e3:=jmY R (by omega) s[i].1 (sub u s[i].2) ht;have:=ih (Kf R s[i].1 (sub u s[i].2)) (by have:=jjp R s[i].1 (sub u s[i].2);omega) λq hq=>(jjq hq).elim (hz q) λe=>by rw [e];exact ht
  rw [jqE,jo hi,List.map_cons,List.foldl_cons];simp only [jd,hlt,ja hi,zV,zq,Zq,e2,e3,r1,h5,this]
theorem jin (s u:ju) (hs:jy s=true) (hu:SzB u):G 187 [sb s,sb u]=kY (if jy u && jy (ky s u) then some (ky s u) else none):=by
 have e1:=Y2 s (zH hs);have e2:=Y2 u hu;rw [hs] at e1;rw [jz8];cases hv:jy u<;>rw [hv] at e2
 ·rw [Bool.false_and,if_neg Bool.false_ne_true];simp only [jd,e1,e2];rfl
 ·have e3:=jhd s u hs hv;have e4:=Y2 (ky s u) (jmm hs hv);rw [Bool.true_and];cases hc:jy (ky s u)<;>rw [hc] at e4
  ·rw [if_neg Bool.false_ne_true];simp only [jd,e1,e2,e3,e4];rfl
  ·rw [if_pos rfl];simp only [jd,e1,e2,e3,e4];rfl
inductive Hgt (s:ju):Nat->yv->Prop
 | nil (r:Nat):Hgt s r []
 | blk (r τ δ:Nat) (b es:yv):9 * τ+(8 - δ) < r->τ<=s.length+1->δ<=8->b.length<=4->(τ=s.length+1-> ∀p∈b,sub s p.1=p.1/\sub s p.2=p.2/\yI p.1<=δ/\yI p.2<=δ)->Hgt s (9 * τ+(8 - δ)) es->Hgt s r (b++es)
theorem Hgt.len {s:ju} {r:Nat} {es:yv} (h:Hgt s r es):es.length<=4 * r:=by
 induction h with
 | nil r=>exact Nat.zero_le _
 | blk r τ δ b es h1 _ _ h4 _ _ ih=>rw [List.length_append];omega
theorem Hgt.mono {s:ju} {r r':Nat} {es:yv} (h:Hgt s r es) (hr:r<=r'):Hgt s r' es:=by
 induction h with
 | nil=>exact Hgt.nil _
 | blk r τ δ b es h1 h2 h3 h4 h5 h6 _=>exact Hgt.blk r' τ δ b es (by omega) h2 h3 h4 h5 h6
theorem Hgt.grow {s s':ju} (hs:s.length < s'.length) {r:Nat} {es:yv} (h:Hgt s r es):Hgt s' r es:=by
 induction h with
 | nil r=>exact Hgt.nil _
 | blk r τ δ b es h1 h2 h3 h4 h5 _ ih=>exact Hgt.blk r τ δ b es h1 (by omega) h3 h4 (λh=>by omega) ih
theorem Hgt.pop {s:ju} {r:Nat} {es:yv} (h:Hgt s r es):∀ {p:T × T} {rest:yv},es=p::rest-> ∃τ δ,9 * τ+(8 - δ) < r/\τ<=s.length+1/\δ<=8/\(τ=s.length+1->sub s p.1=p.1/\sub s p.2=p.2/\yI p.1<=δ/\yI p.2<=δ)/\Hgt s (9 * τ+(8 - δ)+1) rest:=by
 induction h with
 | nil r=>intro p rest h;cases h
 | blk r τ δ b es h1 h2 h3 h4 h5 h6 ih=>
  intro p rest he;cases b with
  | nil=>
   obtain ⟨τ',δ',g1,g2⟩:=ih he;exact ⟨τ',δ',by omega,g2⟩
  | cons q b=>
   rw [List.cons_append,List.cons.injEq] at he;obtain ⟨rfl,rfl⟩:=he;rw [List.length_cons] at h4;exact ⟨τ,δ,h1,h2,h3,λh=>h5 h q (by simp),Hgt.blk _ τ δ b es (by omega) h2 h3 (by omega) (λh x hx=>h5 h x (by simp [hx])) h6⟩
theorem JB {t:T} (h:qw t):t.args.length<=4:=by
 rcases h with h|h
 ·cases hv:jk t.name with
  | true=>rw [Zb h hv];simp
  | false=>
   rw [yd,hv,if_neg Bool.false_ne_true,Bool.and_eq_true,Bool.and_eq_true,decide_eq_true_eq] at h;exact h.2.1
 ·omega
theorem kx {s:ju} {l r:T} {rest:yv} (h:qZ s ((l,r)::rest)) (hg:Hgt s 126 ((l,r)::rest)) {s':ju} {es:yv} (hst:kX s l r rest=some (s',es)):Hgt s' 126 es:=by
 obtain ⟨τ,δ,g1,g2,g3,g4,g5⟩:=hg.pop rfl;have hrest:Hgt s 126 rest:=g5.mono (by omega);have hl:=(jF h.1).1;obtain ⟨_,hor⟩:=j5 h hst;by_cases hlen:s'.length=s.length+1
 ·have hst':=hst;unfold kX at hst;split at hst
  ·cases hst
  split at hst
  ·cases hst;omega
  split at hst
  ·split at hst
   ·cases hst
   ·cases hst;exact hrest.grow (by omega)
  ·split at hst
   ·cases hst;omega
   ·cases hst
 ·have hs:s'=s:=hor.elim (λh=>h.1) λh=>(hlen h).elim;subst hs;obtain ⟨hv,hi,he⟩:=h;obtain ⟨el,er⟩:=he (l,r) (by simp);unfold kX at hst;split at hst
  ·cases hst
  rename_i hsm;split at hst
  ·cases hst;exact hrest
  split at hst
  ·rename_i hvar;split at hst
   ·cases hst
   ·rename_i hno;simp only [Option.some.injEq,Prod.mk.injEq] at hst;rw [<-hst.2];exact hrest
  rename_i hnv;split at hst;rotate_left
  ·cases hst
  simp only [Option.some.injEq,Prod.mk.injEq,true_and] at hst;subst hst;have sm:∀t,¬jE t=false->yI t<=8:=λt ht=>by
   have:jE t=true:=by cases h:jE t with|true=>rfl|false=>exact (ht h).elim
   simp only [jE,Bool.and_eq_true,decide_eq_true_eq] at this;exact this.2
  have d1:=sm (sub s' l) λh=>hsm (Or.inl h);have d2:=sm (sub s' r) λh=>hsm (Or.inr h);have v1:jk (sub s' l).name=false:=by
   cases h:jk (sub s' l).name with
   | false=>rfl
   | true=>exact absurd (Or.inl h) hnv
  have v2:jk (sub s' r).name=false:=by
   cases h:jk (sub s' r).name with
   | false=>rfl
   | true=>exact absurd (Or.inr h) hnv
  have xl:qw (sub s' l):=qw.sub hv el.1;have xr:qw (sub s' r):=qw.sub hv er.1;have arg:∀w:T,qw (sub s' w)->jk (sub s' w).name=false->IdS s'-> ∀u∈(sub s' w).args,sub s' u=u/\yI u+1<=yI (sub s' w):=λw xw vw hi u hu=>by
   refine ⟨jbw u (xw.elim (λh=>zE h u hu) λh=>h.2.2 u hu) λx hx=>Ka hi w (by rw [vsf vw,zQ];exact ⟨u,hu,hx⟩),?_⟩
   have:=jpz hu;rw [JW (sub s' w)];omega
  have p1:=JW (sub s' l);have p2:=JW (sub s' r);refine Hgt.blk 126 (s'.length+1) (max (yI (sub s' l)) (yI (sub s' r)) - 1) _ rest (by omega) (Nat.le_refl _) (by omega) ?_ (λ_ p hp=> ?_) (g5.mono ?_)
  ·rw [List.length_zip];have:=JB xl;omega
  ·have hm:=List.of_mem_zip (a:=p.1) (b:=p.2) hp;have q1:=arg l xl v1 hi p.1 hm.1;have q2:=arg r xr v2 hi p.2 hm.2;exact ⟨q1.1,q2.1,by omega,by omega⟩
  ·by_cases hτ:τ=s'.length+1
   ·obtain ⟨w1,w2,w3,w4⟩:=g4 hτ;have w3:yI l<=δ:=w3;have w4:yI r<=δ:=w4;have w1:yI (sub s' l)=yI l:=congrArg yI w1;have w2:yI (sub s' r)=yI r:=congrArg yI w2;omega
   ·omega
theorem jxM (a b:T):Hgt [] 126 [(a,b)]:=Hgt.blk 126 0 8 [(a,b)] [] (by omega) (by omega) (by omega) (by simp) (λh=>by simp at h) (Hgt.nil _)
theorem jct {n:Nat} (h:n<=100000):jB n 80=true:=by
 unfold jB;exact decide_eq_true ⟨by omega,by omega⟩
theorem ZR {x y:T} (h:jk x.name=true\/jk y.name=true):jk (jg x y).1=true/\(((jg x y).1=y.name/\(jg x y).2=x)\/((jg x y).1=x.name/\(jg x y).2=y)):=by
 unfold jg;split
 ·rename_i hc;refine ⟨?_,Or.inl ⟨rfl,rfl⟩⟩;rcases hc with hc|hc
  ·rcases h with h|h
   ·rw [hc] at h;cases h
   ·exact h
  ·exact hc.1
 ·rename_i hc;refine ⟨?_,Or.inr ⟨rfl,rfl⟩⟩;rcases Bool.eq_false_or_eq_true (jk x.name) with h2|h2
  ·exact h2
  ·exact absurd (Or.inl h2) hc
theorem jnX {p:List UInt8 × T} (hn:jk p.1=true):(!decide ((0:Int) < (cnt p.1 p.2:Nat)) && jy [p])=(!decide (p.1∈jS p.2) && jy [p]):=by
 cases hv:jy [p] with
 | false=>rw [Bool.and_false,Bool.and_false]
 | true=>
  have hk:z6 p.2=true:=qf hv p (by simp);have:=jrW hn p.2 hk;rw [Bool.and_true,Bool.and_true];congr 1;exact decide_eq_decide.2 (by rw [this];omega)
theorem jq4 {p:List UInt8 × T} (hn:jk p.1=true) (hz:Tz p.2):SzB [p]:=⟨by simp,λq hq=>by
 rw [List.mem_singleton.1 hq];exact ⟨by have:=jeL hn;omega,hz⟩⟩
theorem Jw (x y:T) (hx:qw x) (hy:qw y) (nx:nodes x<=3000) (ny:nodes y<=3000) (h:jk x.name=true\/jk y.name=true):G 142 [.agg [sv x.name,jY x.args,sv y.name,jY y.args]]=some (.tup [sb [jg x y],vb (!decide ((jg x y).1∈jS (jg x y).2) && jy [jg x y])],[]):=by
 have e1:=zB x (hx.imp id λh=>h.1);have e2:=zB y (hy.imp id λh=>h.1);obtain ⟨hv,hor⟩:=ZR h;have hz:Tz (jg x y).2:=by
  rcases hor with h|h
  ·rw [h.2];exact hx.tz (by omega)
  ·rw [h.2];exact hy.tz (by omega)
 have hn:nodes (jg x y).2<=3000:=by
  rcases hor with h|h
  ·rw [h.2];exact nx
  ·rw [h.2];exact ny
 have e3:=jgX (jg x y).1 (jg x y).2 hz.wf (by omega);have e4:G 181 [sv (jg x y).1,tm (jg x y).2]=some (vb (decide ((0:Int) < (cnt (jg x y).1 (jg x y).2:Nat))),[]):=by
  rw [jz2];simp only [jd,e3]
 have e5:=jf7 [jg x y] (jq4 hv hz);have e5:G 135 [.agg [.sl 3 [[sv (jg x y).1,sv (jg x y).2.name,jY (jg x y).2.args]]]]=some (vb (jy [jg x y]),[]):=e5;rw [<-jnX hv,jzB];generalize hb:jy [jg x y]=vv at *;generalize ho:decide ((0:Int) < (cnt (jg x y).1 (jg x y).2:Nat))=oo at *;have hsb:sb [jg x y] = .agg [.sl 3 [[sv (jg x y).1,sv (jg x y).2.name,jY (jg x y).2.args]]]:=rfl;rw [hsb];have e5:(G 135 [.agg [.sl 3 [[sv (jg x y).1,sv (jg x y).2.name,jY (jg x y).2.args]]]]).bind (fin true)=some (vb vv):=by rw [e5];rfl
 cases hx1:jk x.name<;>rw [hx1] at e1
 ·have hbd:jg x y=(y.name,x):=if_pos (Or.inl hx1);rw [hbd] at e4 e5 ⊢;have e4:G 181 [sv y.name,tm x]=some (vb oo,[]):=e4;have e5:(G 135 [.agg [.sl 3 [[sv y.name,sv x.name,jY x.args]]]]).bind (fin true)=some (vb vv):=e5;cases oo
  ·simp only [jd,e1,e4,e5,Bool.true_and]
  ·simp only [jd,e1,e4,Bool.false_and]
 ·cases hy1:jk y.name<;>rw [hy1] at e2
  ·have hbd:jg x y=(x.name,y):=if_neg (by rw [hx1,hy1];simp)
   rw [hbd] at e4 e5 ⊢;have e4:G 181 [sv x.name,tm y]=some (vb oo,[]):=e4;have e5:(G 135 [.agg [.sl 3 [[sv x.name,sv y.name,jY y.args]]]]).bind (fin true)=some (vb vv):=e5;cases oo
   ·simp only [jd,e1,e2,e4,e5,Bool.true_and]
   ·simp only [jd,e1,e2,e4,Bool.false_and]
  ·have e6:=jbl false y.name x.name;cases hc:zF x.name y.name<;>rw [hc] at e6
   ·have hbd:jg x y=(x.name,y):=if_neg (by rw [hx1,hy1,hc];simp)
    rw [hbd] at e4 e5 ⊢;have e4:G 181 [sv x.name,tm y]=some (vb oo,[]):=e4;have e5:(G 135 [.agg [.sl 3 [[sv x.name,sv y.name,jY y.args]]]]).bind (fin true)=some (vb vv):=e5;cases oo
    ·simp only [jd,e1,e2,e6,e4,e5,Bool.true_and]
    ·simp only [jd,e1,e2,e6,e4,Bool.false_and]
   ·have hbd:jg x y=(y.name,x):=if_pos (Or.inr ⟨hy1,hc⟩);rw [hbd] at e4 e5 ⊢;have e4:G 181 [sv y.name,tm x]=some (vb oo,[]):=e4;have e5:(G 135 [.agg [.sl 3 [[sv y.name,sv x.name,jY x.args]]]]).bind (fin true)=some (vb vv):=e5;cases oo
    ·simp only [jd,e1,e2,e6,e4,e5,Bool.true_and]
    ·simp only [jd,e1,e2,e6,e4,Bool.false_and]
theorem YP (s:ju) (hs:jy s=true) (n:List UInt8) (t:T) (hn:jk n=true) (ht:Tz t) (hk:n∈jS t\/t.name≠n):∃z:ju,G 152 [sb s,sv n,tm t]=some (if !decide (n∈jS t) && (jy [(n,t)] && jy (ky s [(n,t)])) then .tup [sb (ky s [(n,t)]),vb true] else .tup [sb z,vb false],[]):=by
 obtain ⟨r,e1,hr,hl⟩:=jnP t ht.wf (by have:=Yc t;have:=ht;unfold Tz at this;omega)
 have e2:=jmG r n hl;have hc:r.contains n=decide (n∈jS t):=by
  cases h:r.contains n with
  | true=>rw [List.contains_iff_mem,hr] at h;exact (decide_eq_true h).symm
  | false=>
   refine (decide_eq_false λh2=> ?_).symm;rw [<-hr,<-List.contains_iff_mem,h] at h2;cases h2
 rw [hc] at e2;rw [jzI];by_cases hm:n∈jS t
 ·refine ⟨s,?_⟩;rw [decide_eq_true hm] at e2;rw [decide_eq_true hm,Bool.not_true,Bool.false_and,if_neg Bool.false_ne_true];simp only [jd,e1,e2]
 ·refine ⟨[],?_⟩;have hne:¬t.name=n:=hk.resolve_left hm;rw [decide_eq_false hm] at e2;rw [decide_eq_false hm,Bool.not_false,Bool.true_and];have e3:jkf (sv n) (sv t.name) (jY t.args) []=some (.top,[.sl 3 [[sv n,sv t.name,jY t.args]]]):=by
   have k1:pB (zx []) (kZ [] 0) (some (vi 0))=some 0:=rfl;have k2:pB (zx []) (kZ [] 0) none=some 0:=rfl;have k3:pB 0 0 (some (vi 0))=some 0:=rfl;have k4:zC [] 0 (jT 0 0) = []:=rfl;have k5:jL (jL [] [[sv n,sv t.name,jY t.args]]) [] = [[sv n,sv t.name,jY t.args]]:=rfl;have f0:jB 0 56=true:=jmT (by omega);have f1:jB 1 56=true:=jmT (by omega);have f2:(jL [] [[sv n,sv t.name,jY t.args]]).length=1:=rfl;have eo:=QI t ht;have h00:¬((0:Int) < ((0:Nat):Int)):=by omega
   rw [jvB];simp only [jd,hne];rw [jp8];simp only [jd,h00,k1,k2,k3,k4,f0,f1,eo];generalize hB:j7 _ _ _=B;have hB':B=some (.agg [sv n,sv t.name,jY t.args]):=by rw [<-hB];kernel_rfl
   rw [hB'];simp only [jd,f1,k5,f2,Nat.add_zero]
  have e4:=jin s [(n,t)] hs (jq4 hn ht);have r1:hR 3 (A.top,[.sl 3 [[sv n,sv t.name,jY t.args]]]) 0=some [[sv n,sv t.name,jY t.args]]:=rfl;have e4:G 187 [sb s,.agg [.sl 3 [[sv n,sv t.name,jY t.args]]]]=_:=e4;cases hb:jy [(n,t)] && jy (ky s [(n,t)])
  ·rw [hb,if_neg Bool.false_ne_true] at e4;have e4:G 187 [sb s,.agg [.sl 3 [[sv n,sv t.name,jY t.args]]]]=some (.tup [.agg [.sl 3 []],vb false],[]):=e4;rw [if_neg Bool.false_ne_true];simp only [jd,e1,e2,e3,r1,e4];rfl
  ·rw [hb,if_pos rfl] at e4;have e4:G 187 [sb s,.agg [.sl 3 [[sv n,sv t.name,jY t.args]]]]=some (.tup [sb (ky s [(n,t)]),vb true],[]):=e4;rw [if_pos rfl];simp only [jd,e1,e2,e3,r1,e4]
abbrev ec (p:T × T):List A:=[sv p.1.name,jY p.1.args,sv p.2.name,jY p.2.args]
theorem Yr {W:yv} {i:Nat} {p:T × T} (h:W[i]? = some p):z7 (W.map ec) i 0 2=some (tm p.1)/\z7 (W.map ec) i 2 2=some (tm p.2):=by
 unfold z7;rw [List.getElem?_map,h];exact ⟨rfl,rfl⟩
theorem qa {W rest:yv} {p:T × T} {off:Nat} (h:W.drop off=p::rest):W[off]? = some p/\W.drop (off+1)=rest/\W.length=off+rest.length+1:=by
 have h1:=congrArg (λl=>l[0]?) h;simp only [List.getElem?_drop,Nat.add_zero,List.getElem?_cons_zero] at h1;have h2:=congrArg (List.drop 1) h;rw [List.drop_drop] at h2;have h3:=congrArg List.length h;rw [List.length_drop,List.length_cons] at h3;exact ⟨h1,h2,by omega⟩
theorem jaS {us vs:List T} {i:Nat} (h1:i < us.length) (h2:i < vs.length):jL (((us.zip vs).take i).map ec) [[sv us[i].name,jY us[i].args,sv vs[i].name,jY vs[i].args]]=((us.zip vs).take (i+1)).map ec:=by
 have hl:i < (us.zip vs).length:=by rw [List.length_zip];omega
 rw [List.take_add_one,List.getElem?_eq_getElem hl,List.map_append,List.getElem_zip];rfl
theorem YA {W:yv} (off:Nat):zC (W.map ec) off (W.length - off)=(W.drop off).map ec:=by
 rw [jcK,<-List.map_drop,List.take_of_length_le (by rw [List.length_map,List.length_drop];omega)]
theorem qe {s:ju} {l r:T} {rest:yv} (h1:jE (sub s l)=true) (h2:jE (sub s r)=true) (h3:dq (sub s l) (sub s r)=true):kX s l r rest=some (s,rest):=by
 unfold kX;rw [if_neg (by rw [h1,h2];simp),if_pos h3]
theorem qc {s:ju} {l r:T} {rest:yv} (h1:jE (sub s l)=true) (h2:jE (sub s r)=true) (h3:dq (sub s l) (sub s r)=false) (h4:jk (sub s l).name=true\/jk (sub s r).name=true):kX s l r rest=if (!decide ((jg (sub s l) (sub s r)).1∈jS (jg (sub s l) (sub s r)).2) && jy [jg (sub s l) (sub s r)]) && jy (ky s [jg (sub s l) (sub s r)]) then some (ky s [jg (sub s l) (sub s r)],rest) else none:=by
 unfold kX;rw [if_neg (by rw [h1,h2];simp),if_neg (by rw [h3];simp),if_pos h4];generalize jg (sub s l) (sub s r)=p;by_cases c1:p.1∈jS p.2
 ·rw [if_pos (Or.inl c1),decide_eq_true c1];rfl
 ·rw [decide_eq_false c1];cases c2:jy [p]
  ·rw [if_pos (Or.inr (Or.inl rfl))];rfl
  ·cases c3:jy (ky s [p])
   ·rw [if_pos (Or.inr (Or.inr rfl))];rfl
   ·rw [if_neg (by simp [c1])];rfl
theorem qd {s:ju} {l r:T} {rest:yv} (h1:jE (sub s l)=true) (h2:jE (sub s r)=true) (h3:dq (sub s l) (sub s r)=false) (h4:jk (sub s l).name=false) (h5:jk (sub s r).name=false):kX s l r rest=if (sub s l).name=(sub s r).name/\(sub s l).args.length=(sub s r).args.length then some (s,(sub s l).args.zip (sub s r).args++rest) else none:=by
 unfold kX;rw [if_neg (by rw [h1,h2];simp),if_neg (by rw [h3];simp),if_neg (by rw [h4,h5];simp)]
theorem jx {k:Nat} {s:ju} {l r:T} {rest:yv} {res:Option ju} (hst:kX s l r rest=none) (h:km (k+1) s ((l,r)::rest)=some res):res=none:=by
 rw [km,hst] at h;exact (Option.some.inj h).symm
theorem jQ {k:Nat} {s:ju} {l r:T} {rest:yv} {res:Option ju} {q:ju × yv} (hst:kX s l r rest=some q) (h:km (k+1) s ((l,r)::rest)=some res):km k q.1 q.2=some res:=by
 rw [km,hst] at h;exact h
theorem yu {s:ju} {l r:T} {rest:yv} (h:qZ s ((l,r)::rest)):qw l/\qw r/\nodes l<=31/\nodes r<=31:=by
 obtain ⟨h1,h2⟩:=h.2.2 (l,r) (by simp);exact ⟨h1.1,h2.1,h1.2,h2.2⟩
theorem jpZ (s:ju) (W:yv) (off:Nat) (hW:W.length<=1000) (x y:T) (hl:x.args.length=y.args.length) (h4:x.args.length<=4) :
  jl8 (nA off) (nA (W.length - off)) (jY x.args) (vi (x.args.length:Nat)) (vi 0) (qD s) (sv y.name) (jY y.args) (W.map ec) [] []=je8 (qD s) ((x.args.zip y.args++W.drop off).map ec) []:=by
 have h1:kU (nA off)=off:=rfl;have h2:kU (nA (W.length - off))=W.length - off:=rfl;have hend:jB (((x.args.zip y.args).map ec).length+((W.drop off).map ec).length) 80=true:=by
  rw [List.length_map,List.length_map,List.length_zip,List.length_drop];exact jct (by omega)
 have hzl:((x.args.zip y.args).map ec).length=x.args.length:=by rw [List.length_map,List.length_zip];omega
 have happ:jL ((x.args.zip y.args).map ec) ((W.drop off).map ec)=(x.args.zip y.args++W.drop off).map ec:=by rw [List.map_append];rfl
 have step:∀i,(hi:i < x.args.length)->(hi2:i < y.args.length)->jL (((x.args.zip y.args).take i).map ec) [[sv x.args[i].name,jY x.args[i].args,sv y.args[i].name,jY y.args[i].args]]=((x.args.zip y.args).take (i+1)).map ec:=λi hi hi2=>jaS hi hi2;have key:=upto (P:=λi=>jo7 (nA off) (nA (W.length - off)) (jY x.args) (vi (x.args.length:Nat)) (vi (i:Nat)) (qD s) (sv y.name) (jY y.args) (W.map ec) (((x.args.zip y.args).take i).map ec) []=je8 (qD s) ((x.args.zip y.args++W.drop off).map ec) []) (n:=x.args.length) ?_ ?_
 ·have hend2:(x.args.zip y.args).take x.args.length=x.args.zip y.args:=List.take_of_length_le (by rw [List.length_zip];omega)
  rw [jxV];by_cases h0:0 < x.args.length
  ·have hi:=h0;have hi2:0 < y.args.length:=by omega
   have hlt:(0:Int) < ((x.args.length:Nat):Int):=by omega
   have ix:=ja (k:=2) (f:=jz) hi;have ix2:=ja (k:=2) (f:=jz) hi2;have ta:=step 0 hi hi2;simp only [List.take_zero,List.map_nil,Int.natCast_zero,Nat.zero_add] at ta ix ix2;have hf:jB 1 80=true:=jct (by omega);have hck:ck (0+1)=some (vi ((1:Nat):Int)):=jG (n:=0+1) (by omega) (by omega);have key:=key 1 (by omega);rw [<-key];simp only [jd,hlt,ix,ix2,jl,hf,ta,hck,h1,h2]
  ·have hlt:¬(0:Int) < ((x.args.length:Nat):Int):=by omega
   have he:x.args = []:=List.eq_nil_of_length_eq_zero (by omega);have hz:x.args.zip y.args = []:=by rw [he];rfl
   rw [hz] at hend happ ⊢;have hend:jB ((W.drop off).map ec).length 80=true:=by simpa using hend
   have happ:jL [] ((W.drop off).map ec)=(W.drop off).map ec:=rfl;simp only [jd,hlt,h1,h2,YA,List.nil_append];rw [List.length_map] at hend;simp only [jd,hend,happ]
 ·have hend2:(x.args.zip y.args).take x.args.length=x.args.zip y.args:=List.take_of_length_le (by rw [List.length_zip];omega)
  rw [hend2,juX];have hlt:¬((x.args.length:Nat):Int) < ((x.args.length:Nat):Int):=by omega
  rw [hzl,List.length_map] at hend;simp only [jd,hlt,h1,h2,YA,happ];rw [List.length_zip,Nat.min_eq_left (by omega)];simp only [jd,hend]
 ·intro i hi ih;have hi2:i < y.args.length:=by omega
  have hlt:((i:Nat):Int) < ((x.args.length:Nat):Int):=by omega
  have ta:=step i hi hi2;have li:(((x.args.zip y.args).take i).map ec).length=i:=take_len (by rw [List.length_zip];omega);have hf:jB (i+1) 80=true:=jct (by omega);have hck:ck ((i:Int)+1)=some (vi ((i+1:Nat):Int)):=jG (by omega) (by omega);generalize ((x.args.zip y.args).take i).map ec=R at *;rw [juX,<-ih];simp only [jd,hlt,ja hi,ja hi2,jl,li,hf,ta,hck,h1,h2]
theorem jpY (W:yv) (off:Nat) (hW:W.length<=1000) (x y:T) (hl:x.args.length=y.args.length) (h4:x.args.length<=4) :
  jl7 (nA off) (nA (W.length - off)) (jY x.args) (vi (x.args.length:Nat)) (vi 0) (sv y.name) (jY y.args) (W.map ec) [] [] []=jc9 ((x.args.zip y.args++W.drop off).map ec) [] []:=by
 have h1:kU (nA off)=off:=rfl;have h2:kU (nA (W.length - off))=W.length - off:=rfl;have hend:jB (((x.args.zip y.args).map ec).length+((W.drop off).map ec).length) 80=true:=by
  rw [List.length_map,List.length_map,List.length_zip,List.length_drop];exact jct (by omega)
 have hzl:((x.args.zip y.args).map ec).length=x.args.length:=by rw [List.length_map,List.length_zip];omega
 have happ:jL ((x.args.zip y.args).map ec) ((W.drop off).map ec)=(x.args.zip y.args++W.drop off).map ec:=by rw [List.map_append];rfl
 have step:∀i,(hi:i < x.args.length)->(hi2:i < y.args.length)->jL (((x.args.zip y.args).take i).map ec) [[sv x.args[i].name,jY x.args[i].args,sv y.args[i].name,jY y.args[i].args]]=((x.args.zip y.args).take (i+1)).map ec:=λi hi hi2=>jaS hi hi2;have key:=upto (P:=λi=>jo6 (nA off) (nA (W.length - off)) (jY x.args) (vi (x.args.length:Nat)) (vi (i:Nat)) (sv y.name) (jY y.args) (W.map ec) (((x.args.zip y.args).take i).map ec) [] []=jc9 ((x.args.zip y.args++W.drop off).map ec) [] []) (n:=x.args.length) ?_ ?_
 ·have hend2:(x.args.zip y.args).take x.args.length=x.args.zip y.args:=List.take_of_length_le (by rw [List.length_zip];omega)
  rw [jxU];by_cases h0:0 < x.args.length
  ·have hi:=h0;have hi2:0 < y.args.length:=by omega
   have hlt:(0:Int) < ((x.args.length:Nat):Int):=by omega
   have ix:=ja (k:=2) (f:=jz) hi;have ix2:=ja (k:=2) (f:=jz) hi2;have ta:=step 0 hi hi2;simp only [List.take_zero,List.map_nil,Int.natCast_zero,Nat.zero_add] at ta ix ix2;have hf:jB 1 80=true:=jct (by omega);have hck:ck (0+1)=some (vi ((1:Nat):Int)):=jG (n:=0+1) (by omega) (by omega);have key:=key 1 (by omega);rw [<-key];simp only [jd,hlt,ix,ix2,jl,hf,ta,hck,h1,h2]
  ·have hlt:¬(0:Int) < ((x.args.length:Nat):Int):=by omega
   have he:x.args = []:=List.eq_nil_of_length_eq_zero (by omega);have hz:x.args.zip y.args = []:=by rw [he];rfl
   rw [hz] at hend happ ⊢;have hend:jB ((W.drop off).map ec).length 80=true:=by simpa using hend
   have happ:jL [] ((W.drop off).map ec)=(W.drop off).map ec:=rfl;simp only [jd,hlt,h1,h2,YA,List.nil_append];rw [List.length_map] at hend;simp only [jd,hend,happ]
 ·have hend2:(x.args.zip y.args).take x.args.length=x.args.zip y.args:=List.take_of_length_le (by rw [List.length_zip];omega)
  rw [hend2,juW];have hlt:¬((x.args.length:Nat):Int) < ((x.args.length:Nat):Int):=by omega
  rw [hzl,List.length_map] at hend;simp only [jd,hlt,h1,h2,YA,happ];rw [List.length_zip,Nat.min_eq_left (by omega)];simp only [jd,hend]
 ·intro i hi ih;have hi2:i < y.args.length:=by omega
  have hlt:((i:Nat):Int) < ((x.args.length:Nat):Int):=by omega
  have ta:=step i hi hi2;have li:(((x.args.zip y.args).take i).map ec).length=i:=take_len (by rw [List.length_zip];omega);have hf:jB (i+1) 80=true:=jct (by omega);have hck:ck ((i:Int)+1)=some (vi ((i+1:Nat):Int)):=jG (by omega) (by omega);generalize ((x.args.zip y.args).take i).map ec=R at *;rw [juW,<-ih];simp only [jd,hlt,ja hi,ja hi2,jl,li,hf,ta,hck,h1,h2]
def US (s:ju) (es:yv) (o:Option Out):Prop:=
 (∀(W:yv) (off:Nat),W.drop off=es->off<=W.length->W.length<=1000->ZN (nA off) (nA (W.length - off)) (qD s) (W.map ec) []=o)/\je8 (qD s) (es.map ec) []=o/\
 (s = []->(∀(W:yv) (off:Nat),W.drop off=es->off<=W.length->W.length<=1000->jh4 (nA off) (nA (W.length - off)) (W.map ec) [] []=o)/\jc9 (es.map ec) [] []=o)
theorem un2 (k:Nat) (ih:∀(s:ju) (es:yv) (res:Option ju),qZ s es->Hgt s 126 es->km k s es=some res->US s es (kY res)) (s:ju) (l r:T) (rest:yv) (hi:qZ s ((l,r)::rest)) (hg:Hgt s 126 ((l,r)::rest)) (res:Option ju) (hu:km (k+1) s ((l,r)::rest)=some res) (W:yv) (off:Nat) (hW:W.drop off=(l,r)::rest) (hlen:W.length<=1000):ZN (nA off) (nA (W.length - off)) (qD s) (W.map ec) []=kY res:=by
 obtain ⟨d1,d2,d3⟩:=qa hW;obtain ⟨r1,r2⟩:=Yr d1;obtain ⟨al,ar,nl,nr⟩:=yu hi;have hv:=hi.1;have e1:=zI s hv l al (by omega);have e2:=zI s hv r ar (by omega);have w1:kU (nA off)=off:=rfl;have w2:kU (nA (W.length - off))=W.length - off:=rfl;have g1:jp .gtr false (nA (W.length - off)) (vi 0)=some (vb true):=by
  show some (vb (decide ((0:Int) < ((W.length - off:Nat):Int))))=_;rw [decide_eq_true (by omega)]
 have g2:Ke (W.length - off) (vi 0)=some 0:=zi (i:=0) (by omega);have g3:pB (W.length - off) (kZ (W.map ec) off) none=some (W.length - off):=by
  rw [show kZ (W.map ec) off=W.length - off by rw [yh,List.length_map]];exact zc (Nat.le_refl _)
 have g4:pB 0 (W.length - off) (some (vi 1))=some 1:=yg (n:=1) (by omega);have hn:jT (W.length - off) 1=W.length - (off+1):=by unfold jT;omega
 rw [juV];cases sl:jE (sub s l)<;>rw [sl] at e1
 ·have e1:G 139 [sb s,tm l]=some (.tup [.agg [sv [],.sl 2 []],vb false],[]):=e1;have hr:res=none:=jx (by unfold kX;rw [if_pos (Or.inl sl)]) hu;subst hr;obtain ⟨q,e2⟩:∃q:T × Bool,G 139 [sb s,tm r]=some (.tup [tm q.1,vb q.2],[]):=by
   cases h:jE (sub s r)<;>rw [h] at e2
   ·exact ⟨(.mk [] [],false),e2⟩
   ·exact ⟨(sub s r,true),e2⟩
  simp only [jd,w1,w2,g1,g2,g3,g4,Nat.add_zero,r1,r2,e1,e2];rfl
 have e1:G 139 [sb s,tm l]=some (.tup [tm (sub s l),vb true],[]):=e1;cases sr:jE (sub s r)<;>rw [sr] at e2
 ·have e2:G 139 [sb s,tm r]=some (.tup [.agg [sv [],.sl 2 []],vb false],[]):=e2;have hr:res=none:=jx (by unfold kX;rw [if_pos (Or.inr sr)]) hu;subst hr;simp only [jd,w1,w2,g1,g2,g3,g4,Nat.add_zero,r1,r2,e1,e2];rfl
 have e2:G 139 [sb s,tm r]=some (.tup [tm (sub s r),vb true],[]):=e2;have xl:qw (sub s l):=qw.sub hv al;have xr:qw (sub s r):=qw.sub hv ar;have ml:=jV sl;have mr:=jV sr;have tl:=xl.tz (by omega);have tr:=xr.tz (by omega);have e3:=yO (sub s l) tl.wf (sub s r) tr.wf;have ll:=(jF hv).1;cases hd:dq (sub s l) (sub s r)<;>rw [hd] at e3
 rotate_left
 ·have hst:=qe (rest:=rest) sl sr hd;have hnext:=ih _ _ res (j5 hi hst).1 (kx hi hg hst) (jQ hst hu);have hnext:=hnext.1 W (off+1) d2 (by omega) hlen;simp only [jd,w1,w2,g1,g2,g3,g4,Nat.add_zero,r1,r2,e1,e2,e3,hn];exact hnext
 have v1:=zB (sub s l) (xl.imp id λh=>h.1);have v2:=zB (sub s r) (xr.imp id λh=>h.1);have bindC:jk (sub s l).name=true\/jk (sub s r).name=true->(∃q:Bool,G 142 [.agg [sv (sub s l).name,jY (sub s l).args,sv (sub s r).name,jY (sub s r).args]]=some (.tup [sb [jg (sub s l) (sub s r)],vb q],[])/\(q=false->kY res=kY none)/\(q=true-> ∃q2:Bool,∃u:ju,G 143 [sb s,sb [jg (sub s l) (sub s r)]]=some (.tup [sb u,vb q2],[])/\(q2=false->kY res=kY none)/\(q2=true->ZN (nA (off+1)) (nA (W.length - (off+1))) (qD u) (W.map ec) []=kY res))):=by
  intro hvar;have hst:=qc (rest:=rest) sl sr hd hvar;refine ⟨_,Jw _ _ xl xr (by omega) (by omega) hvar,λhq=> ?_,λhq=> ?_⟩
  ·rw [hq,Bool.false_and,if_neg Bool.false_ne_true] at hst;rw [jx hst hu]
  ·rw [hq,Bool.true_and] at hst;have hvp:jy [jg (sub s l) (sub s r)]=true:=by
    rw [Bool.and_eq_true] at hq;exact hq.2
   have ec1:=Kj s [jg (sub s l) (sub s r)] hv hvp;cases hc:jy (ky s [jg (sub s l) (sub s r)])
   ·rw [hc,if_neg Bool.false_ne_true] at hst ec1;exact ⟨false,[],ec1,λ_=>by rw [jx hst hu],λh=>by cases h⟩
   ·rw [hc,if_pos rfl] at hst ec1;refine ⟨true,_,ec1,(λh=>by cases h),λ_=> ?_⟩;have hnext:=ih _ _ res (j5 hi hst).1 (kx hi hg hst) (jQ hst hu);exact hnext.1 W (off+1) d2 (by omega) hlen
 have close:jk (sub s l).name=true\/jk (sub s r).name=true->_:=bindC;clear bindC;cases vl:jk (sub s l).name<;>rw [vl] at v1
 rotate_left
 ·obtain ⟨q,b1,b2,b3⟩:=close (Or.inl vl);cases q
  ·rw [b2 rfl];simp only [jd,w1,w2,g1,g2,g3,g4,Nat.add_zero,r1,r2,e1,e2,e3,v1,v2,b1];rfl
  ·obtain ⟨q2,u,b4,b5,b6⟩:=b3 rfl;cases q2
   ·rw [b5 rfl];simp only [jd,w1,w2,g1,g2,g3,g4,Nat.add_zero,r1,r2,e1,e2,e3,v1,v2,b1,b4];rfl
   ·rw [<-b6 rfl];simp only [jd,w1,w2,g1,g2,g3,g4,Nat.add_zero,r1,r2,e1,e2,e3,v1,v2,b1,b4,hn]
 cases vr:jk (sub s r).name<;>rw [vr] at v2
 rotate_left
 ·obtain ⟨q,b1,b2,b3⟩:=close (Or.inr vr);cases q
  ·rw [b2 rfl];simp only [jd,w1,w2,g1,g2,g3,g4,Nat.add_zero,r1,r2,e1,e2,e3,v1,v2,b1];rfl
  ·obtain ⟨q2,u,b4,b5,b6⟩:=b3 rfl;cases q2
   ·rw [b5 rfl];simp only [jd,w1,w2,g1,g2,g3,g4,Nat.add_zero,r1,r2,e1,e2,e3,v1,v2,b1,b4];rfl
   ·rw [<-b6 rfl];simp only [jd,w1,w2,g1,g2,g3,g4,Nat.add_zero,r1,r2,e1,e2,e3,v1,v2,b1,b4,hn]
 have hst:=qd (rest:=rest) sl sr hd vl vr;by_cases hnm:(sub s l).name=(sub s r).name;rotate_left
 ·rw [if_neg (λh=>hnm h.1)] at hst;have hnd:=decide_eq_false hnm;rw [jx hst hu];simp only [jd,w1,w2,g1,g2,g3,g4,Nat.add_zero,r1,r2,e1,e2,e3,v1,v2,hnd];rfl
 have hnd:=decide_eq_true hnm;by_cases hal:(sub s l).args.length=(sub s r).args.length;rotate_left
 ·rw [if_neg (λh=>hal h.2)] at hst;have hal':decide ((((sub s l).args.length:Nat):Int)=(((sub s r).args.length:Nat):Int))=false:=decide_eq_false (by omega);rw [jx hst hu];simp only [jd,w1,w2,g1,g2,g3,g4,Nat.add_zero,r1,r2,e1,e2,e3,v1,v2,hnd,hal'];rfl
 rw [if_pos ⟨hnm,hal⟩] at hst;have hnext:=ih _ _ res (j5 hi hst).1 (kx hi hg hst) (jQ hst hu);have hnext:=hnext.2.1;have hin:=jpZ s W (off+1) hlen (sub s l) (sub s r) hal (JB xl);rw [d2] at hin;rw [hnext] at hin;have hal':decide ((((sub s l).args.length:Nat):Int)=(((sub s r).args.length:Nat):Int))=true:=decide_eq_true (by omega);simp only [jd,w1,w2,g1,g2,g3,g4,Nat.add_zero,r1,r2,e1,e2,e3,v1,v2,hnd,hal',hn];exact hin
theorem un8 (k:Nat) (ih:∀(s:ju) (es:yv) (res:Option ju),qZ s es->Hgt s 126 es->km k s es=some res->US s es (kY res)) (s:ju) (l r:T) (rest:yv) (hi:qZ s ((l,r)::rest)) (hg:Hgt s 126 ((l,r)::rest)) (res:Option ju) (hu:km (k+1) s ((l,r)::rest)=some res) (W:yv) (hW:W=(l,r)::rest) (hlen:W.length<=1000):je8 (qD s) (W.map ec) []=kY res:=by
 have hW0:W.drop 0=(l,r)::rest:=hW;obtain ⟨d1,d2,d3⟩:=qa hW0;obtain ⟨r1,r2⟩:=Yr d1;obtain ⟨al,ar,nl,nr⟩:=yu hi;have hv:=hi.1;have e1:=zI s hv l al (by omega);have e2:=zI s hv r ar (by omega);have g1:jp .gtr false (zv (W.map ec)) (vi 0)=some (vb true):=by
  rw [Kt,List.length_map,Yf,decide_eq_true (by omega)]
 have g2:Ke W.length (vi 0)=some 0:=zi (i:=0) (by omega);have g3:pB (zx (W.map ec)) (kZ (W.map ec) 0) none=some W.length:=by
  rw [zX,show kZ (W.map ec) 0=W.length by rw [yh,List.length_map];rfl];exact zc (Nat.le_refl _)
 have g4:pB 0 W.length (some (vi 1))=some 1:=yg (n:=1) (by omega);have g0:(0:Int) < ((W.length:Nat):Int):=by omega
 have hn:jT (W.length) 1=W.length - (0+1):=by unfold jT;omega
 rw [juY];cases sl:jE (sub s l)<;>rw [sl] at e1
 ·have e1:G 139 [sb s,tm l]=some (.tup [.agg [sv [],.sl 2 []],vb false],[]):=e1;have hr:res=none:=jx (by unfold kX;rw [if_pos (Or.inl sl)]) hu;subst hr;obtain ⟨q,e2⟩:∃q:T × Bool,G 139 [sb s,tm r]=some (.tup [tm q.1,vb q.2],[]):=by
   cases h:jE (sub s r)<;>rw [h] at e2
   ·exact ⟨(.mk [] [],false),e2⟩
   ·exact ⟨(sub s r,true),e2⟩
  simp only [jd,g0,g2,g3,g4,r1,r2,e1,e2];rfl
 have e1:G 139 [sb s,tm l]=some (.tup [tm (sub s l),vb true],[]):=e1;cases sr:jE (sub s r)<;>rw [sr] at e2
 ·have e2:G 139 [sb s,tm r]=some (.tup [.agg [sv [],.sl 2 []],vb false],[]):=e2;have hr:res=none:=jx (by unfold kX;rw [if_pos (Or.inr sr)]) hu;subst hr;simp only [jd,g0,g2,g3,g4,r1,r2,e1,e2];rfl
 have e2:G 139 [sb s,tm r]=some (.tup [tm (sub s r),vb true],[]):=e2;have xl:qw (sub s l):=qw.sub hv al;have xr:qw (sub s r):=qw.sub hv ar;have ml:=jV sl;have mr:=jV sr;have tl:=xl.tz (by omega);have tr:=xr.tz (by omega);have e3:=yO (sub s l) tl.wf (sub s r) tr.wf;have ll:=(jF hv).1;cases hd:dq (sub s l) (sub s r)<;>rw [hd] at e3
 rotate_left
 ·have hst:=qe (rest:=rest) sl sr hd;have hnext:=ih _ _ res (j5 hi hst).1 (kx hi hg hst) (jQ hst hu);have hnext:=hnext.1 W (0+1) d2 (by omega) hlen;simp only [jd,g0,g2,g3,g4,r1,r2,e1,e2,e3,hn];exact hnext
 have v1:=zB (sub s l) (xl.imp id λh=>h.1);have v2:=zB (sub s r) (xr.imp id λh=>h.1);have bindC:jk (sub s l).name=true\/jk (sub s r).name=true->(∃q:Bool,G 142 [.agg [sv (sub s l).name,jY (sub s l).args,sv (sub s r).name,jY (sub s r).args]]=some (.tup [sb [jg (sub s l) (sub s r)],vb q],[])/\(q=false->kY res=kY none)/\(q=true-> ∃q2:Bool,∃u:ju,G 143 [sb s,sb [jg (sub s l) (sub s r)]]=some (.tup [sb u,vb q2],[])/\(q2=false->kY res=kY none)/\(q2=true->ZN (nA (0+1)) (nA (W.length - (0+1))) (qD u) (W.map ec) []=kY res))):=by
  intro hvar;have hst:=qc (rest:=rest) sl sr hd hvar;refine ⟨_,Jw _ _ xl xr (by omega) (by omega) hvar,λhq=> ?_,λhq=> ?_⟩
  ·rw [hq,Bool.false_and,if_neg Bool.false_ne_true] at hst;rw [jx hst hu]
  ·rw [hq,Bool.true_and] at hst;have hvp:jy [jg (sub s l) (sub s r)]=true:=by
    rw [Bool.and_eq_true] at hq;exact hq.2
   have ec1:=Kj s [jg (sub s l) (sub s r)] hv hvp;cases hc:jy (ky s [jg (sub s l) (sub s r)])
   ·rw [hc,if_neg Bool.false_ne_true] at hst ec1;exact ⟨false,[],ec1,λ_=>by rw [jx hst hu],λh=>by cases h⟩
   ·rw [hc,if_pos rfl] at hst ec1;refine ⟨true,_,ec1,(λh=>by cases h),λ_=> ?_⟩;have hnext:=ih _ _ res (j5 hi hst).1 (kx hi hg hst) (jQ hst hu);exact hnext.1 W (0+1) d2 (by omega) hlen
 have close:jk (sub s l).name=true\/jk (sub s r).name=true->_:=bindC;clear bindC;cases vl:jk (sub s l).name<;>rw [vl] at v1
 rotate_left
 ·obtain ⟨q,b1,b2,b3⟩:=close (Or.inl vl);cases q
  ·rw [b2 rfl];simp only [jd,g0,g2,g3,g4,r1,r2,e1,e2,e3,v1,v2,b1];rfl
  ·obtain ⟨q2,u,b4,b5,b6⟩:=b3 rfl;cases q2
   ·rw [b5 rfl];simp only [jd,g0,g2,g3,g4,r1,r2,e1,e2,e3,v1,v2,b1,b4];rfl
   ·rw [<-b6 rfl];simp only [jd,g0,g2,g3,g4,r1,r2,e1,e2,e3,v1,v2,b1,b4,hn]
 cases vr:jk (sub s r).name<;>rw [vr] at v2
 rotate_left
 ·obtain ⟨q,b1,b2,b3⟩:=close (Or.inr vr);cases q
  ·rw [b2 rfl];simp only [jd,g0,g2,g3,g4,r1,r2,e1,e2,e3,v1,v2,b1];rfl
  ·obtain ⟨q2,u,b4,b5,b6⟩:=b3 rfl;cases q2
   ·rw [b5 rfl];simp only [jd,g0,g2,g3,g4,r1,r2,e1,e2,e3,v1,v2,b1,b4];rfl
   ·rw [<-b6 rfl];simp only [jd,g0,g2,g3,g4,r1,r2,e1,e2,e3,v1,v2,b1,b4,hn]
 have hst:=qd (rest:=rest) sl sr hd vl vr;by_cases hnm:(sub s l).name=(sub s r).name;rotate_left
 ·rw [if_neg (λh=>hnm h.1)] at hst;have hnd:=decide_eq_false hnm;rw [jx hst hu];simp only [jd,g0,g2,g3,g4,r1,r2,e1,e2,e3,v1,v2,hnd];rfl
 have hnd:=decide_eq_true hnm;by_cases hal:(sub s l).args.length=(sub s r).args.length;rotate_left
 ·rw [if_neg (λh=>hal h.2)] at hst;have hal':decide ((((sub s l).args.length:Nat):Int)=(((sub s r).args.length:Nat):Int))=false:=decide_eq_false (by omega);rw [jx hst hu];simp only [jd,g0,g2,g3,g4,r1,r2,e1,e2,e3,v1,v2,hnd,hal'];rfl
 rw [if_pos ⟨hnm,hal⟩] at hst;have hnext:=ih _ _ res (j5 hi hst).1 (kx hi hg hst) (jQ hst hu);have hnext:=hnext.2.1;have hin:=jpZ s W (0+1) hlen (sub s l) (sub s r) hal (JB xl);rw [d2] at hin;rw [hnext] at hin;have hal':decide ((((sub s l).args.length:Nat):Int)=(((sub s r).args.length:Nat):Int))=true:=decide_eq_true (by omega);simp only [jd,g0,g2,g3,g4,r1,r2,e1,e2,e3,v1,v2,hnd,hal',hn];exact hin
theorem un1 (k:Nat) (ih:∀(s:ju) (es:yv) (res:Option ju),qZ s es->Hgt s 126 es->km k s es=some res->US s es (kY res)) (l r:T) (rest:yv) (hi:qZ [] ((l,r)::rest)) (hg:Hgt [] 126 ((l,r)::rest)) (res:Option ju) (hu:km (k+1) [] ((l,r)::rest)=some res) (W:yv) (off:Nat) (hW:W.drop off=(l,r)::rest) (hlen:W.length<=1000):jh4 (nA off) (nA (W.length - off)) (W.map ec) [] []=kY res:=by
 obtain ⟨d1,d2,d3⟩:=qa hW;obtain ⟨r1,r2⟩:=Yr d1;obtain ⟨al,ar,nl,nr⟩:=yu hi;have hv:=hi.1;have e1:=zI [] hv l al (by omega);have e2:=zI [] hv r ar (by omega);have w1:kU (nA off)=off:=rfl;have w2:kU (nA (W.length - off))=W.length - off:=rfl;have g1:jp .gtr false (nA (W.length - off)) (vi 0)=some (vb true):=by
  show some (vb (decide ((0:Int) < ((W.length - off:Nat):Int))))=_;rw [decide_eq_true (by omega)]
 have g2:Ke (W.length - off) (vi 0)=some 0:=zi (i:=0) (by omega);have g3:pB (W.length - off) (kZ (W.map ec) off) none=some (W.length - off):=by
  rw [show kZ (W.map ec) off=W.length - off by rw [yh,List.length_map]];exact zc (Nat.le_refl _)
 have g4:pB 0 (W.length - off) (some (vi 1))=some 1:=yg (n:=1) (by omega);have hn:jT (W.length - off) 1=W.length - (off+1):=by unfold jT;omega
 rw [juU];cases sl:jE (sub [] l)<;>rw [sl] at e1
 ·have e1:G 139 [.agg [.sl 3 []],tm l]=some (.tup [.agg [sv [],.sl 2 []],vb false],[]):=e1;have hr:res=none:=jx (by unfold kX;rw [if_pos (Or.inl sl)]) hu;subst hr;obtain ⟨q,e2⟩:∃q:T × Bool,G 139 [.agg [.sl 3 []],tm r]=some (.tup [tm q.1,vb q.2],[]):=by
   cases h:jE (sub [] r)<;>rw [h] at e2
   ·exact ⟨(.mk [] [],false),e2⟩
   ·exact ⟨(sub [] r,true),e2⟩
  simp only [jd,w1,w2,g1,g2,g3,g4,Nat.add_zero,r1,r2,e1,e2];rfl
 have e1:G 139 [.agg [.sl 3 []],tm l]=some (.tup [tm (sub [] l),vb true],[]):=e1;cases sr:jE (sub [] r)<;>rw [sr] at e2
 ·have e2:G 139 [.agg [.sl 3 []],tm r]=some (.tup [.agg [sv [],.sl 2 []],vb false],[]):=e2;have hr:res=none:=jx (by unfold kX;rw [if_pos (Or.inr sr)]) hu;subst hr;simp only [jd,w1,w2,g1,g2,g3,g4,Nat.add_zero,r1,r2,e1,e2];rfl
 have e2:G 139 [.agg [.sl 3 []],tm r]=some (.tup [tm (sub [] r),vb true],[]):=e2;have xl:qw (sub [] l):=qw.sub hv al;have xr:qw (sub [] r):=qw.sub hv ar;have ml:=jV sl;have mr:=jV sr;have tl:=xl.tz (by omega);have tr:=xr.tz (by omega);have e3:=yO (sub [] l) tl.wf (sub [] r) tr.wf;have ll:=(jF hv).1;cases hd:dq (sub [] l) (sub [] r)<;>rw [hd] at e3
 rotate_left
 ·have hst:=qe (rest:=rest) sl sr hd;have hnext:=ih _ _ res (j5 hi hst).1 (kx hi hg hst) (jQ hst hu);have hnext:=(hnext.2.2 rfl).1 W (off+1) d2 (by omega) hlen;simp only [jd,w1,w2,g1,g2,g3,g4,Nat.add_zero,r1,r2,e1,e2,e3,hn];exact hnext
 have v1:=zB (sub [] l) (xl.imp id λh=>h.1);have v2:=zB (sub [] r) (xr.imp id λh=>h.1);have bindC:jk (sub [] l).name=true\/jk (sub [] r).name=true->(∃q:Bool,G 142 [.agg [sv (sub [] l).name,jY (sub [] l).args,sv (sub [] r).name,jY (sub [] r).args]]=some (.tup [sb [jg (sub [] l) (sub [] r)],vb q],[])/\(q=false->kY res=kY none)/\(q=true-> ∃q2:Bool,∃u:ju,G 143 [.agg [.sl 3 []],sb [jg (sub [] l) (sub [] r)]]=some (.tup [sb u,vb q2],[])/\(q2=false->kY res=kY none)/\(q2=true->ZN (nA (off+1)) (nA (W.length - (off+1))) (qD u) (W.map ec) []=kY res))):=by
  intro hvar;have hst:=qc (rest:=rest) sl sr hd hvar;refine ⟨_,Jw _ _ xl xr (by omega) (by omega) hvar,λhq=> ?_,λhq=> ?_⟩
  ·rw [hq,Bool.false_and,if_neg Bool.false_ne_true] at hst;rw [jx hst hu]
  ·rw [hq,Bool.true_and] at hst;have hvp:jy [jg (sub [] l) (sub [] r)]=true:=by
    rw [Bool.and_eq_true] at hq;exact hq.2
   have ec1:=Kj [] [jg (sub [] l) (sub [] r)] hv hvp;cases hc:jy (ky [] [jg (sub [] l) (sub [] r)])
   ·rw [hc,if_neg Bool.false_ne_true] at hst ec1;exact ⟨false,[],ec1,λ_=>by rw [jx hst hu],λh=>by cases h⟩
   ·rw [hc,if_pos rfl] at hst ec1;refine ⟨true,_,ec1,(λh=>by cases h),λ_=> ?_⟩;have hnext:=ih _ _ res (j5 hi hst).1 (kx hi hg hst) (jQ hst hu);exact hnext.1 W (off+1) d2 (by omega) hlen
 have close:jk (sub [] l).name=true\/jk (sub [] r).name=true->_:=bindC;clear bindC;cases vl:jk (sub [] l).name<;>rw [vl] at v1
 rotate_left
 ·obtain ⟨q,b1,b2,b3⟩:=close (Or.inl vl);cases q
  ·rw [b2 rfl];simp only [jd,w1,w2,g1,g2,g3,g4,Nat.add_zero,r1,r2,e1,e2,e3,v1,v2,b1];rfl
  ·obtain ⟨q2,u,b4,b5,b6⟩:=b3 rfl;cases q2
   ·rw [b5 rfl];simp only [jd,w1,w2,g1,g2,g3,g4,Nat.add_zero,r1,r2,e1,e2,e3,v1,v2,b1,b4];rfl
   ·rw [<-b6 rfl];simp only [jd,w1,w2,g1,g2,g3,g4,Nat.add_zero,r1,r2,e1,e2,e3,v1,v2,b1,b4,hn]
 cases vr:jk (sub [] r).name<;>rw [vr] at v2
 rotate_left
 ·obtain ⟨q,b1,b2,b3⟩:=close (Or.inr vr);cases q
  ·rw [b2 rfl];simp only [jd,w1,w2,g1,g2,g3,g4,Nat.add_zero,r1,r2,e1,e2,e3,v1,v2,b1];rfl
  ·obtain ⟨q2,u,b4,b5,b6⟩:=b3 rfl;cases q2
   ·rw [b5 rfl];simp only [jd,w1,w2,g1,g2,g3,g4,Nat.add_zero,r1,r2,e1,e2,e3,v1,v2,b1,b4];rfl
   ·rw [<-b6 rfl];simp only [jd,w1,w2,g1,g2,g3,g4,Nat.add_zero,r1,r2,e1,e2,e3,v1,v2,b1,b4,hn]
 have hst:=qd (rest:=rest) sl sr hd vl vr;by_cases hnm:(sub [] l).name=(sub [] r).name;rotate_left
 ·rw [if_neg (λh=>hnm h.1)] at hst;have hnd:=decide_eq_false hnm;rw [jx hst hu];simp only [jd,w1,w2,g1,g2,g3,g4,Nat.add_zero,r1,r2,e1,e2,e3,v1,v2,hnd];rfl
 have hnd:=decide_eq_true hnm;by_cases hal:(sub [] l).args.length=(sub [] r).args.length;rotate_left
 ·rw [if_neg (λh=>hal h.2)] at hst;have hal':decide ((((sub [] l).args.length:Nat):Int)=(((sub [] r).args.length:Nat):Int))=false:=decide_eq_false (by omega);rw [jx hst hu];simp only [jd,w1,w2,g1,g2,g3,g4,Nat.add_zero,r1,r2,e1,e2,e3,v1,v2,hnd,hal'];rfl
 rw [if_pos ⟨hnm,hal⟩] at hst;have hnext:=ih _ _ res (j5 hi hst).1 (kx hi hg hst) (jQ hst hu);have hnext:=(hnext.2.2 rfl).2;have hin:=jpY W (off+1) hlen (sub [] l) (sub [] r) hal (JB xl);rw [d2] at hin;rw [hnext] at hin;have hal':decide ((((sub [] l).args.length:Nat):Int)=(((sub [] r).args.length:Nat):Int))=true:=decide_eq_true (by omega);simp only [jd,w1,w2,g1,g2,g3,g4,Nat.add_zero,r1,r2,e1,e2,e3,v1,v2,hnd,hal',hn];exact hin
theorem un6 (k:Nat) (ih:∀(s:ju) (es:yv) (res:Option ju),qZ s es->Hgt s 126 es->km k s es=some res->US s es (kY res)) (l r:T) (rest:yv) (hi:qZ [] ((l,r)::rest)) (hg:Hgt [] 126 ((l,r)::rest)) (res:Option ju) (hu:km (k+1) [] ((l,r)::rest)=some res) (W:yv) (hW:W=(l,r)::rest) (hlen:W.length<=1000):jc9 (W.map ec) [] []=kY res:=by
 have hW0:W.drop 0=(l,r)::rest:=hW;obtain ⟨d1,d2,d3⟩:=qa hW0;obtain ⟨r1,r2⟩:=Yr d1;obtain ⟨al,ar,nl,nr⟩:=yu hi;have hv:=hi.1;have e1:=zI [] hv l al (by omega);have e2:=zI [] hv r ar (by omega);have g1:jp .gtr false (zv (W.map ec)) (vi 0)=some (vb true):=by
  rw [Kt,List.length_map,Yf,decide_eq_true (by omega)]
 have g2:Ke W.length (vi 0)=some 0:=zi (i:=0) (by omega);have g3:pB (zx (W.map ec)) (kZ (W.map ec) 0) none=some W.length:=by
  rw [zX,show kZ (W.map ec) 0=W.length by rw [yh,List.length_map];rfl];exact zc (Nat.le_refl _)
 have g4:pB 0 W.length (some (vi 1))=some 1:=yg (n:=1) (by omega);have g0:(0:Int) < ((W.length:Nat):Int):=by omega
 have hn:jT (W.length) 1=W.length - (0+1):=by unfold jT;omega
 rw [jqL];cases sl:jE (sub [] l)<;>rw [sl] at e1
 ·have e1:G 139 [.agg [.sl 3 []],tm l]=some (.tup [.agg [sv [],.sl 2 []],vb false],[]):=e1;have hr:res=none:=jx (by unfold kX;rw [if_pos (Or.inl sl)]) hu;subst hr;obtain ⟨q,e2⟩:∃q:T × Bool,G 139 [.agg [.sl 3 []],tm r]=some (.tup [tm q.1,vb q.2],[]):=by
   cases h:jE (sub [] r)<;>rw [h] at e2
   ·exact ⟨(.mk [] [],false),e2⟩
   ·exact ⟨(sub [] r,true),e2⟩
  simp only [jd,g0,g2,g3,g4,r1,r2,e1,e2];rfl
 have e1:G 139 [.agg [.sl 3 []],tm l]=some (.tup [tm (sub [] l),vb true],[]):=e1;cases sr:jE (sub [] r)<;>rw [sr] at e2
 ·have e2:G 139 [.agg [.sl 3 []],tm r]=some (.tup [.agg [sv [],.sl 2 []],vb false],[]):=e2;have hr:res=none:=jx (by unfold kX;rw [if_pos (Or.inr sr)]) hu;subst hr;simp only [jd,g0,g2,g3,g4,r1,r2,e1,e2];rfl
 have e2:G 139 [.agg [.sl 3 []],tm r]=some (.tup [tm (sub [] r),vb true],[]):=e2;have xl:qw (sub [] l):=qw.sub hv al;have xr:qw (sub [] r):=qw.sub hv ar;have ml:=jV sl;have mr:=jV sr;have tl:=xl.tz (by omega);have tr:=xr.tz (by omega);have e3:=yO (sub [] l) tl.wf (sub [] r) tr.wf;have ll:=(jF hv).1;cases hd:dq (sub [] l) (sub [] r)<;>rw [hd] at e3
 rotate_left
 ·have hst:=qe (rest:=rest) sl sr hd;have hnext:=ih _ _ res (j5 hi hst).1 (kx hi hg hst) (jQ hst hu);have hnext:=(hnext.2.2 rfl).1 W (0+1) d2 (by omega) hlen;simp only [jd,g0,g2,g3,g4,r1,r2,e1,e2,e3,hn];exact hnext
 have v1:=zB (sub [] l) (xl.imp id λh=>h.1);have v2:=zB (sub [] r) (xr.imp id λh=>h.1);have bindC:jk (sub [] l).name=true\/jk (sub [] r).name=true->(∃q:Bool,G 142 [.agg [sv (sub [] l).name,jY (sub [] l).args,sv (sub [] r).name,jY (sub [] r).args]]=some (.tup [sb [jg (sub [] l) (sub [] r)],vb q],[])/\(q=false->kY res=kY none)/\(q=true-> ∃q2:Bool,∃u:ju,G 143 [.agg [.sl 3 []],sb [jg (sub [] l) (sub [] r)]]=some (.tup [sb u,vb q2],[])/\(q2=false->kY res=kY none)/\(q2=true->ZN (nA (0+1)) (nA (W.length - (0+1))) (qD u) (W.map ec) []=kY res))):=by
  intro hvar;have hst:=qc (rest:=rest) sl sr hd hvar;refine ⟨_,Jw _ _ xl xr (by omega) (by omega) hvar,λhq=> ?_,λhq=> ?_⟩
  ·rw [hq,Bool.false_and,if_neg Bool.false_ne_true] at hst;rw [jx hst hu]
  ·rw [hq,Bool.true_and] at hst;have hvp:jy [jg (sub [] l) (sub [] r)]=true:=by
    rw [Bool.and_eq_true] at hq;exact hq.2
   have ec1:=Kj [] [jg (sub [] l) (sub [] r)] hv hvp;cases hc:jy (ky [] [jg (sub [] l) (sub [] r)])
   ·rw [hc,if_neg Bool.false_ne_true] at hst ec1;exact ⟨false,[],ec1,λ_=>by rw [jx hst hu],λh=>by cases h⟩
   ·rw [hc,if_pos rfl] at hst ec1;refine ⟨true,_,ec1,(λh=>by cases h),λ_=> ?_⟩;have hnext:=ih _ _ res (j5 hi hst).1 (kx hi hg hst) (jQ hst hu);exact hnext.1 W (0+1) d2 (by omega) hlen
 have close:jk (sub [] l).name=true\/jk (sub [] r).name=true->_:=bindC;clear bindC;cases vl:jk (sub [] l).name<;>rw [vl] at v1
 rotate_left
 ·obtain ⟨q,b1,b2,b3⟩:=close (Or.inl vl);cases q
  ·rw [b2 rfl];simp only [jd,g0,g2,g3,g4,r1,r2,e1,e2,e3,v1,v2,b1];rfl
  ·obtain ⟨q2,u,b4,b5,b6⟩:=b3 rfl;cases q2
   ·rw [b5 rfl];simp only [jd,g0,g2,g3,g4,r1,r2,e1,e2,e3,v1,v2,b1,b4];rfl
   ·rw [<-b6 rfl];simp only [jd,g0,g2,g3,g4,r1,r2,e1,e2,e3,v1,v2,b1,b4,hn]
 cases vr:jk (sub [] r).name<;>rw [vr] at v2
 rotate_left
 ·obtain ⟨q,b1,b2,b3⟩:=close (Or.inr vr);cases q
  ·rw [b2 rfl];simp only [jd,g0,g2,g3,g4,r1,r2,e1,e2,e3,v1,v2,b1];rfl
  ·obtain ⟨q2,u,b4,b5,b6⟩:=b3 rfl;cases q2
   ·rw [b5 rfl];simp only [jd,g0,g2,g3,g4,r1,r2,e1,e2,e3,v1,v2,b1,b4];rfl
   ·rw [<-b6 rfl];simp only [jd,g0,g2,g3,g4,r1,r2,e1,e2,e3,v1,v2,b1,b4,hn]
 have hst:=qd (rest:=rest) sl sr hd vl vr;by_cases hnm:(sub [] l).name=(sub [] r).name;rotate_left
 ·rw [if_neg (λh=>hnm h.1)] at hst;have hnd:=decide_eq_false hnm;rw [jx hst hu];simp only [jd,g0,g2,g3,g4,r1,r2,e1,e2,e3,v1,v2,hnd];rfl
 have hnd:=decide_eq_true hnm;by_cases hal:(sub [] l).args.length=(sub [] r).args.length;rotate_left
 ·rw [if_neg (λh=>hal h.2)] at hst;have hal':decide ((((sub [] l).args.length:Nat):Int)=(((sub [] r).args.length:Nat):Int))=false:=decide_eq_false (by omega);rw [jx hst hu];simp only [jd,g0,g2,g3,g4,r1,r2,e1,e2,e3,v1,v2,hnd,hal'];rfl
 rw [if_pos ⟨hnm,hal⟩] at hst;have hnext:=ih _ _ res (j5 hi hst).1 (kx hi hg hst) (jQ hst hu);have hnext:=(hnext.2.2 rfl).2;have hin:=jpY W (0+1) hlen (sub [] l) (sub [] r) hal (JB xl);rw [d2] at hin;rw [hnext] at hin;have hal':decide ((((sub [] l).args.length:Nat):Int)=(((sub [] r).args.length:Nat):Int))=true:=decide_eq_true (by omega);simp only [jd,g0,g2,g3,g4,r1,r2,e1,e2,e3,v1,v2,hnd,hal',hn];exact hin
theorem jvl (s:ju):US s [] (kY (some s)):=by
 refine ⟨λW off hW h1 h2=> ?_,?_,λhs=> ?_⟩
 ·have h3:=congrArg List.length hW;rw [List.length_drop,List.length_nil] at h3;have w2:kU (nA (W.length - off))=W.length - off:=rfl;have g1:jp .gtr false (nA (W.length - off)) (vi 0)=some (vb false):=by
   show some (vb (decide ((0:Int) < ((W.length - off:Nat):Int))))=_;rw [decide_eq_false (by omega)]
  rw [juV];simp only [jd,w2,g1];rfl
 ·rw [juY];have g1:jp .gtr false (zv (List.map ec [])) (vi 0)=some (vb false):=rfl;simp only [jd,g1];rfl
 ·subst hs;refine ⟨λW off hW h1 h2=> ?_,?_⟩
  ·have h3:=congrArg List.length hW;rw [List.length_drop,List.length_nil] at h3;have w2:kU (nA (W.length - off))=W.length - off:=rfl;have g1:jp .gtr false (nA (W.length - off)) (vi 0)=some (vb false):=by
    show some (vb (decide ((0:Int) < ((W.length - off:Nat):Int))))=_;rw [decide_eq_false (by omega)]
   rw [juU];simp only [jd,w2,g1];rfl
  ·rw [jqL];have g1:jp .gtr false (zv (List.map ec [])) (vi 0)=some (vb false):=rfl;simp only [jd,g1];rfl
theorem jyq:∀(k:Nat) (s:ju) (es:yv) (res:Option ju),qZ s es->Hgt s 126 es->km k s es=some res->US s es (kY res):=by
 intro k;induction k with
 | zero=>
  intro s es res hi hg hu;cases es with
  | nil=>simp only [km,Option.some.injEq] at hu;rw [<-hu];exact jvl s
  | cons p es=>simp [km] at hu
 | succ k ih=>
  intro s es res hi hg hu;cases es with
  | nil=>simp only [km,Option.some.injEq] at hu;rw [<-hu];exact jvl s
  | cons p rest=>
   obtain ⟨l,r⟩:=p;have hl:=hg.len;refine ⟨λW off hW _ hlen=>un2 k ih s l r rest hi hg res hu W off hW hlen,un8 k ih s l r rest hi hg res hu _ rfl (by omega),λhs=> ?_⟩;subst hs;exact ⟨λW off hW _ hlen=>un1 k ih l r rest hi hg res hu W off hW hlen,un6 k ih l r rest hi hg res hu _ rfl (by omega)⟩
theorem jAK (W:yv):jo5 (W.map ec) [] []=jc9 (W.map ec) [] []:=by
 rw [jxT,jqL]
theorem jj2 (a b:T) (ha:Exx a) (hb:Exx b):G 88 [tm a,tm b]=kY (J9 a b):=by
 obtain ⟨k,hk⟩:=Kx ha hb;have h:=((jyq k [] [(a,b)] _ (jj0 ha hb) (jxM a b) hk).2.2 rfl).2;rw [<-jAK] at h;rw [g88];simp only [jd];exact h
theorem jmA (s:ju) (W:yv) (off:Nat) (hW:W.length<=1000) (x y:T) (hl:x.args.length=y.args.length) (h4:x.args.length<=4) :
  jma (nA off) (nA (W.length - off)) (vb true) (vi 0) (qD s) (sv x.name) (jY x.args) (sv y.name) (jY y.args) (W.map ec) [] [] []=je9 (qD s) ((x.args.zip y.args++W.drop off).map ec) [] []:=by
 have h1:kU (nA off)=off:=rfl;have h2:kU (nA (W.length - off))=W.length - off:=rfl;have hend:jB (((x.args.zip y.args).map ec).length+((W.drop off).map ec).length) 80=true:=by
  rw [List.length_map,List.length_map,List.length_zip,List.length_drop];exact jct (by omega)
 have hzl:((x.args.zip y.args).map ec).length=x.args.length:=by rw [List.length_map,List.length_zip];omega
 have happ:jL ((x.args.zip y.args).map ec) ((W.drop off).map ec)=(x.args.zip y.args++W.drop off).map ec:=by rw [List.map_append];rfl
 have step:∀i,(hi:i < x.args.length)->(hi2:i < y.args.length)->jL (((x.args.zip y.args).take i).map ec) [[sv x.args[i].name,jY x.args[i].args,sv y.args[i].name,jY y.args[i].args]]=((x.args.zip y.args).take (i+1)).map ec:=λi hi hi2=>jaS hi hi2;have key:=upto (P:=λi=>jpa (nA off) (nA (W.length - off)) (vb true) (vi (i:Nat)) (qD s) (sv x.name) (jY x.args) (sv y.name) (jY y.args) (W.map ec) (((x.args.zip y.args).take i).map ec) [] []=je9 (qD s) ((x.args.zip y.args++W.drop off).map ec) [] []) (n:=x.args.length) ?_ ?_
 ·have hend2:(x.args.zip y.args).take x.args.length=x.args.zip y.args:=List.take_of_length_le (by rw [List.length_zip];omega)
  rw [jxY];by_cases h0:0 < x.args.length
  ·have hi:=h0;have hi2:0 < y.args.length:=by omega
   have hlt:(0:Int) < ((x.args.length:Nat):Int):=by omega
   have ix:=ja (k:=2) (f:=jz) hi;have ix2:=ja (k:=2) (f:=jz) hi2;have ta:=step 0 hi hi2;simp only [List.take_zero,List.map_nil,Int.natCast_zero,Nat.zero_add] at ta ix ix2;have hf:jB 1 80=true:=jct (by omega);have hck:ck (0+1)=some (vi ((1:Nat):Int)):=jG (n:=0+1) (by omega) (by omega);have key:=key 1 (by omega);rw [<-key];simp only [jd,hlt,ix,ix2,jl,hf,ta,hck,h1,h2];generalize hB:j7 _ _ _=B;have hB':B=some (.agg [sv x.args[0].name,jY x.args[0].args,sv y.args[0].name,jY y.args[0].args]):=by rw [<-hB];kernel_rfl
   rw [hB'];simp only [jd,hf,ta,hck,h1,h2]
  ·have hlt:¬(0:Int) < ((x.args.length:Nat):Int):=by omega
   have he:x.args = []:=List.eq_nil_of_length_eq_zero (by omega);have hz:x.args.zip y.args = []:=by rw [he];rfl
   rw [hz] at hend happ ⊢;have hend:jB ((W.drop off).map ec).length 80=true:=by simpa using hend
   have happ:jL [] ((W.drop off).map ec)=(W.drop off).map ec:=rfl;simp only [jd,hlt,h1,h2,YA,List.nil_append];rw [List.length_map] at hend;simp only [jd,hend,happ]
 ·have hend2:(x.args.zip y.args).take x.args.length=x.args.zip y.args:=List.take_of_length_le (by rw [List.length_zip];omega)
  rw [hend2,ju2];have hlt:¬((x.args.length:Nat):Int) < ((x.args.length:Nat):Int):=by omega
  rw [hzl,List.length_map] at hend;simp only [jd,hlt,h1,h2,YA,happ];rw [List.length_zip,Nat.min_eq_left (by omega)];simp only [jd,hend]
 ·intro i hi ih;have hi2:i < y.args.length:=by omega
  have hlt:((i:Nat):Int) < ((x.args.length:Nat):Int):=by omega
  have ta:=step i hi hi2;have li:(((x.args.zip y.args).take i).map ec).length=i:=take_len (by rw [List.length_zip];omega);have hf:jB (i+1) 80=true:=jct (by omega);have hck:ck ((i:Int)+1)=some (vi ((i+1:Nat):Int)):=jG (by omega) (by omega);generalize ((x.args.zip y.args).take i).map ec=R at *;rw [ju2,<-ih];simp only [jd,hlt,ja hi,ja hi2,jl];generalize hB:j7 _ _ _=B;have hB':B=some (.agg [sv x.args[i].name,jY x.args[i].args,sv y.args[i].name,jY y.args[i].args]):=by rw [<-hB];kernel_rfl
  rw [hB'];simp only [jd,li,hf,ta,hck,h1,h2]
theorem jmz (W:yv) (off:Nat) (hW:W.length<=1000) (x y:T) (hl:x.args.length=y.args.length) (h4:x.args.length<=4) :
  jl9 (nA off) (nA (W.length - off)) (vb true) (vi 0) (sv x.name) (jY x.args) (sv y.name) (jY y.args) (W.map ec) [] [] [] []=jda ((x.args.zip y.args++W.drop off).map ec) [] [] []:=by
 have h1:kU (nA off)=off:=rfl;have h2:kU (nA (W.length - off))=W.length - off:=rfl;have hend:jB (((x.args.zip y.args).map ec).length+((W.drop off).map ec).length) 80=true:=by
  rw [List.length_map,List.length_map,List.length_zip,List.length_drop];exact jct (by omega)
 have hzl:((x.args.zip y.args).map ec).length=x.args.length:=by rw [List.length_map,List.length_zip];omega
 have happ:jL ((x.args.zip y.args).map ec) ((W.drop off).map ec)=(x.args.zip y.args++W.drop off).map ec:=by rw [List.map_append];rfl
 have step:∀i,(hi:i < x.args.length)->(hi2:i < y.args.length)->jL (((x.args.zip y.args).take i).map ec) [[sv x.args[i].name,jY x.args[i].args,sv y.args[i].name,jY y.args[i].args]]=((x.args.zip y.args).take (i+1)).map ec:=λi hi hi2=>jaS hi hi2;have key:=upto (P:=λi=>jo9 (nA off) (nA (W.length - off)) (vb true) (vi (i:Nat)) (sv x.name) (jY x.args) (sv y.name) (jY y.args) (W.map ec) (((x.args.zip y.args).take i).map ec) [] [] []=jda ((x.args.zip y.args++W.drop off).map ec) [] [] []) (n:=x.args.length) ?_ ?_
 ·have hend2:(x.args.zip y.args).take x.args.length=x.args.zip y.args:=List.take_of_length_le (by rw [List.length_zip];omega)
  rw [jxX];by_cases h0:0 < x.args.length
  ·have hi:=h0;have hi2:0 < y.args.length:=by omega
   have hlt:(0:Int) < ((x.args.length:Nat):Int):=by omega
   have ix:=ja (k:=2) (f:=jz) hi;have ix2:=ja (k:=2) (f:=jz) hi2;have ta:=step 0 hi hi2;simp only [List.take_zero,List.map_nil,Int.natCast_zero,Nat.zero_add] at ta ix ix2;have hf:jB 1 80=true:=jct (by omega);have hck:ck (0+1)=some (vi ((1:Nat):Int)):=jG (n:=0+1) (by omega) (by omega);have key:=key 1 (by omega);rw [<-key];simp only [jd,hlt,ix,ix2,jl,hf,ta,hck,h1,h2];generalize hB:j7 _ _ _=B;have hB':B=some (.agg [sv x.args[0].name,jY x.args[0].args,sv y.args[0].name,jY y.args[0].args]):=by rw [<-hB];kernel_rfl
   rw [hB'];simp only [jd,hf,ta,hck,h1,h2]
  ·have hlt:¬(0:Int) < ((x.args.length:Nat):Int):=by omega
   have he:x.args = []:=List.eq_nil_of_length_eq_zero (by omega);have hz:x.args.zip y.args = []:=by rw [he];rfl
   rw [hz] at hend happ ⊢;have hend:jB ((W.drop off).map ec).length 80=true:=by simpa using hend
   have happ:jL [] ((W.drop off).map ec)=(W.drop off).map ec:=rfl;simp only [jd,hlt,h1,h2,YA,List.nil_append];rw [List.length_map] at hend;simp only [jd,hend,happ]
 ·have hend2:(x.args.zip y.args).take x.args.length=x.args.zip y.args:=List.take_of_length_le (by rw [List.length_zip];omega)
  rw [hend2,ju1];have hlt:¬((x.args.length:Nat):Int) < ((x.args.length:Nat):Int):=by omega
  rw [hzl,List.length_map] at hend;simp only [jd,hlt,h1,h2,YA,happ];rw [List.length_zip,Nat.min_eq_left (by omega)];simp only [jd,hend]
 ·intro i hi ih;have hi2:i < y.args.length:=by omega
  have hlt:((i:Nat):Int) < ((x.args.length:Nat):Int):=by omega
  have ta:=step i hi hi2;have li:(((x.args.zip y.args).take i).map ec).length=i:=take_len (by rw [List.length_zip];omega);have hf:jB (i+1) 80=true:=jct (by omega);have hck:ck ((i:Int)+1)=some (vi ((i+1:Nat):Int)):=jG (by omega) (by omega);generalize ((x.args.zip y.args).take i).map ec=R at *;rw [ju1,<-ih];simp only [jd,hlt,ja hi,ja hi2,jl];generalize hB:j7 _ _ _=B;have hB':B=some (.agg [sv x.args[i].name,jY x.args[i].args,sv y.args[i].name,jY y.args[i].args]):=by rw [<-hB];kernel_rfl
  rw [hB'];simp only [jd,li,hf,ta,hck,h1,h2]
def USS (s:ju) (es:yv) (o:Option Out):Prop:=
 (∀(W:yv) (off:Nat),W.drop off=es->off<=W.length->W.length<=1000->ZO (nA off) (nA (W.length - off)) (qD s) (W.map ec) [] []=o)/\je9 (qD s) (es.map ec) [] []=o/\
 (s = []->(∀(W:yv) (off:Nat),W.drop off=es->off<=W.length->W.length<=1000->jh5 (nA off) (nA (W.length - off)) (W.map ec) [] [] []=o)/\jda (es.map ec) [] [] []=o)
theorem jAM (k:Nat) (ih:∀(s:ju) (es:yv) (res:Option ju),qZ s es->Hgt s 126 es->km k s es=some res->USS s es (kY res)) (s:ju) (l r:T) (rest:yv) (hi:qZ s ((l,r)::rest)) (hg:Hgt s 126 ((l,r)::rest)) (res:Option ju) (hu:km (k+1) s ((l,r)::rest)=some res) (W:yv) (off:Nat) (hW:W.drop off=(l,r)::rest) (hlen:W.length<=1000):ZO (nA off) (nA (W.length - off)) (qD s) (W.map ec) [] []=kY res:=by
 obtain ⟨d1,d2,d3⟩:=qa hW;obtain ⟨r1,r2⟩:=Yr d1;obtain ⟨al,ar,nl,nr⟩:=yu hi;have hv:=hi.1;have e1:=zZ s hv l al (by omega);have e2:=zZ s hv r ar (by omega);have w1:kU (nA off)=off:=rfl;have w2:kU (nA (W.length - off))=W.length - off:=rfl;have g1:jp .gtr false (nA (W.length - off)) (vi 0)=some (vb true):=by
  show some (vb (decide ((0:Int) < ((W.length - off:Nat):Int))))=_;rw [decide_eq_true (by omega)]
 have g2:Ke (W.length - off) (vi 0)=some 0:=zi (i:=0) (by omega);have g3:pB (W.length - off) (kZ (W.map ec) off) none=some (W.length - off):=by
  rw [show kZ (W.map ec) off=W.length - off by rw [yh,List.length_map]];exact zc (Nat.le_refl _)
 have g4:pB 0 (W.length - off) (some (vi 1))=some 1:=yg (n:=1) (by omega);have hn:jT (W.length - off) 1=W.length - (off+1):=by unfold jT;omega
 rw [ju0];cases sl:jE (sub s l)<;>rw [sl] at e1
 ·have e1:G 150 [sb s,tm l]=some (.tup [.agg [sv [],.sl 2 []],vb false],[]):=e1;have hr:res=none:=jx (by unfold kX;rw [if_pos (Or.inl sl)]) hu;subst hr;obtain ⟨q,e2⟩:∃q:T × Bool,G 150 [sb s,tm r]=some (.tup [tm q.1,vb q.2],[]):=by
   cases h:jE (sub s r)<;>rw [h] at e2
   ·exact ⟨(.mk [] [],false),e2⟩
   ·exact ⟨(sub s r,true),e2⟩
  simp only [jd,w1,w2,g1,g2,g3,g4,Nat.add_zero,r1,r2,e1,e2];rfl
 have e1:G 150 [sb s,tm l]=some (.tup [tm (sub s l),vb true],[]):=e1;cases sr:jE (sub s r)<;>rw [sr] at e2
 ·have e2:G 150 [sb s,tm r]=some (.tup [.agg [sv [],.sl 2 []],vb false],[]):=e2;have hr:res=none:=jx (by unfold kX;rw [if_pos (Or.inr sr)]) hu;subst hr;simp only [jd,w1,w2,g1,g2,g3,g4,Nat.add_zero,r1,r2,e1,e2];rfl
 have e2:G 150 [sb s,tm r]=some (.tup [tm (sub s r),vb true],[]):=e2;have xl:qw (sub s l):=qw.sub hv al;have xr:qw (sub s r):=qw.sub hv ar;have ml:=jV sl;have mr:=jV sr;have tl:=xl.tz (by omega);have tr:=xr.tz (by omega);have e3:=KX (sub s l) tl.wf (sub s r) tr.wf;have ll:=(jF hv).1;cases hd:dq (sub s l) (sub s r)<;>rw [hd] at e3
 rotate_left
 ·have hst:=qe (rest:=rest) sl sr hd;have hnext:=ih _ _ res (j5 hi hst).1 (kx hi hg hst) (jQ hst hu);have hnext:=hnext.1 W (off+1) d2 (by omega) hlen;simp only [jd,w1,w2,g1,g2,g3,g4,Nat.add_zero,r1,r2,e1,e2,e3,hn];exact hnext
 have v1:=zt (sub s l).name ((kV _).1 tl.wf).1;have v2:=zt (sub s r).name ((kV _).1 tr.wf).1;have bindC:jk (sub s l).name=true\/jk (sub s r).name=true-> ∃q2:Bool,∃u:ju,G 152 [sb s,sv (jg (sub s l) (sub s r)).1,tm (jg (sub s l) (sub s r)).2]=some (.tup [sb u,vb q2],[])/\(q2=false->kY res=kY none)/\(q2=true->ZO (nA (off+1)) (nA (W.length - (off+1))) (qD u) (W.map ec) [] []=kY res):=by
  intro hvar;have hst:=qc (rest:=rest) sl sr hd hvar;obtain ⟨bv,hor⟩:=ZR hvar;have bz:Tz (jg (sub s l) (sub s r)).2:=hor.elim (λh=>by rw [h.2];exact tl) λh=>by rw [h.2];exact tr
  have bk:(jg (sub s l) (sub s r)).1∈jS (jg (sub s l) (sub s r)).2\/(jg (sub s l) (sub s r)).2.name≠(jg (sub s l) (sub s r)).1:=by
   by_cases hnm:(jg (sub s l) (sub s r)).2.name=(jg (sub s l) (sub s r)).1
   ·left;rw [vsv (by rw [hnm];exact bv),hnm];simp
   ·exact Or.inr hnm
  obtain ⟨z,eb⟩:=YP s hv _ _ bv bz bk;rw [<-Bool.and_assoc] at eb;cases hc:(!decide ((jg (sub s l) (sub s r)).1∈jS (jg (sub s l) (sub s r)).2) && jy [jg (sub s l) (sub s r)]) && jy (ky s [jg (sub s l) (sub s r)])
  ·rw [hc,if_neg Bool.false_ne_true] at hst;have eb:=eb.trans (by rw [show ((jg (sub s l) (sub s r)).1,(jg (sub s l) (sub s r)).2)=jg (sub s l) (sub s r) from rfl,hc,if_neg Bool.false_ne_true]);exact ⟨false,z,eb,λ_=>by rw [jx hst hu],λh=>by cases h⟩
  ·rw [hc,if_pos rfl] at hst;have eb:=eb.trans (by rw [show ((jg (sub s l) (sub s r)).1,(jg (sub s l) (sub s r)).2)=jg (sub s l) (sub s r) from rfl,hc,if_pos rfl]);refine ⟨true,_,eb,(λh=>by cases h),λ_=> ?_⟩;have hnext:=ih _ _ res (j5 hi hst).1 (kx hi hg hst) (jQ hst hu);exact hnext.1 W (off+1) d2 (by omega) hlen
 cases vl:jk (sub s l).name<;>rw [vl] at v1
 rotate_left
 ·cases vr:jk (sub s r).name<;>rw [vr] at v2
  ·obtain ⟨q2,u,b1,b2,b3⟩:=bindC (Or.inl vl);have hbd:jg (sub s l) (sub s r)=((sub s l).name,sub s r):=if_neg (by rw [vl,vr];simp);rw [hbd] at b1;cases q2
   ·rw [b2 rfl];simp only [jd,w1,w2,g1,g2,g3,g4,Nat.add_zero,r1,r2,e1,e2,e3,v1,v2,b1];rfl
   ·rw [<-b3 rfl];simp only [jd,w1,w2,g1,g2,g3,g4,Nat.add_zero,r1,r2,e1,e2,e3,v1,v2,b1,hn]
  ·cases hc:zF (sub s l).name (sub s r).name
   ·obtain ⟨q2,u,b1,b2,b3⟩:=bindC (Or.inl vl);have hbd:jg (sub s l) (sub s r)=((sub s l).name,sub s r):=if_neg (by rw [vl,vr,hc];simp);rw [hbd] at b1;cases q2
    ·rw [b2 rfl];simp only [jd,w1,w2,g1,g2,g3,g4,Nat.add_zero,r1,r2,e1,e2,e3,v1,v2,hc,b1];rfl
    ·rw [<-b3 rfl];simp only [jd,w1,w2,g1,g2,g3,g4,Nat.add_zero,r1,r2,e1,e2,e3,v1,v2,hc,b1,hn]
   ·obtain ⟨q2,u,b1,b2,b3⟩:=bindC (Or.inl vl);have hbd:jg (sub s l) (sub s r)=((sub s r).name,sub s l):=if_pos (Or.inr ⟨vr,hc⟩);rw [hbd] at b1;cases q2
    ·rw [b2 rfl];simp only [jd,w1,w2,g1,g2,g3,g4,Nat.add_zero,r1,r2,e1,e2,e3,v1,v2,hc,b1];rfl
    ·rw [<-b3 rfl];simp only [jd,w1,w2,g1,g2,g3,g4,Nat.add_zero,r1,r2,e1,e2,e3,v1,v2,hc,b1,hn]
 cases vr:jk (sub s r).name<;>rw [vr] at v2
 rotate_left
 ·obtain ⟨q2,u,b1,b2,b3⟩:=bindC (Or.inr vr);have hbd:jg (sub s l) (sub s r)=((sub s r).name,sub s l):=if_pos (Or.inl vl);rw [hbd] at b1;cases q2
  ·rw [b2 rfl];simp only [jd,w1,w2,g1,g2,g3,g4,Nat.add_zero,r1,r2,e1,e2,e3,v1,v2,b1];rfl
  ·rw [<-b3 rfl];simp only [jd,w1,w2,g1,g2,g3,g4,Nat.add_zero,r1,r2,e1,e2,e3,v1,v2,b1,hn]
 have hst:=qd (rest:=rest) sl sr hd vl vr;by_cases hnm:(sub s l).name=(sub s r).name;rotate_left
 ·rw [if_neg (λh=>hnm h.1)] at hst;have hnd:=decide_eq_false hnm;rw [jx hst hu];simp only [jd,w1,w2,g1,g2,g3,g4,Nat.add_zero,r1,r2,e1,e2,e3,v1,v2,hnd];rfl
 have hnd:=decide_eq_true hnm;by_cases hal:(sub s l).args.length=(sub s r).args.length;rotate_left
 ·rw [if_neg (λh=>hal h.2)] at hst;have hal':decide ((((sub s l).args.length:Nat):Int)=(((sub s r).args.length:Nat):Int))=false:=decide_eq_false (by omega);rw [jx hst hu];simp only [jd,w1,w2,g1,g2,g3,g4,Nat.add_zero,r1,r2,e1,e2,e3,v1,v2,hnd,hal'];rfl
 rw [if_pos ⟨hnm,hal⟩] at hst;have hnext:=ih _ _ res (j5 hi hst).1 (kx hi hg hst) (jQ hst hu);have hnext:=hnext.2.1;have hin:=jmA s W (off+1) hlen (sub s l) (sub s r) hal (JB xl);rw [d2] at hin;rw [hnext] at hin;have hal':decide ((((sub s l).args.length:Nat):Int)=(((sub s r).args.length:Nat):Int))=true:=decide_eq_true (by omega);simp only [jd,w1,w2,g1,g2,g3,g4,Nat.add_zero,r1,r2,e1,e2,e3,v1,v2,hnd,hal',hn];exact hin
theorem jAO (k:Nat) (ih:∀(s:ju) (es:yv) (res:Option ju),qZ s es->Hgt s 126 es->km k s es=some res->USS s es (kY res)) (s:ju) (l r:T) (rest:yv) (hi:qZ s ((l,r)::rest)) (hg:Hgt s 126 ((l,r)::rest)) (res:Option ju) (hu:km (k+1) s ((l,r)::rest)=some res) (W:yv) (hW:W=(l,r)::rest) (hlen:W.length<=1000):je9 (qD s) (W.map ec) [] []=kY res:=by
 have hW0:W.drop 0=(l,r)::rest:=hW;obtain ⟨d1,d2,d3⟩:=qa hW0;obtain ⟨r1,r2⟩:=Yr d1;obtain ⟨al,ar,nl,nr⟩:=yu hi;have hv:=hi.1;have e1:=zZ s hv l al (by omega);have e2:=zZ s hv r ar (by omega);have g1:jp .gtr false (zv (W.map ec)) (vi 0)=some (vb true):=by
  rw [Kt,List.length_map,Yf,decide_eq_true (by omega)]
 have g2:Ke W.length (vi 0)=some 0:=zi (i:=0) (by omega);have g3:pB (zx (W.map ec)) (kZ (W.map ec) 0) none=some W.length:=by
  rw [zX,show kZ (W.map ec) 0=W.length by rw [yh,List.length_map];rfl];exact zc (Nat.le_refl _)
 have g4:pB 0 W.length (some (vi 1))=some 1:=yg (n:=1) (by omega);have g0:(0:Int) < ((W.length:Nat):Int):=by omega
 have hn:jT (W.length) 1=W.length - (0+1):=by unfold jT;omega
 rw [ju3];cases sl:jE (sub s l)<;>rw [sl] at e1
 ·have e1:G 150 [sb s,tm l]=some (.tup [.agg [sv [],.sl 2 []],vb false],[]):=e1;have hr:res=none:=jx (by unfold kX;rw [if_pos (Or.inl sl)]) hu;subst hr;obtain ⟨q,e2⟩:∃q:T × Bool,G 150 [sb s,tm r]=some (.tup [tm q.1,vb q.2],[]):=by
   cases h:jE (sub s r)<;>rw [h] at e2
   ·exact ⟨(.mk [] [],false),e2⟩
   ·exact ⟨(sub s r,true),e2⟩
  simp only [jd,g0,g2,g3,g4,r1,r2,e1,e2];rfl
 have e1:G 150 [sb s,tm l]=some (.tup [tm (sub s l),vb true],[]):=e1;cases sr:jE (sub s r)<;>rw [sr] at e2
 ·have e2:G 150 [sb s,tm r]=some (.tup [.agg [sv [],.sl 2 []],vb false],[]):=e2;have hr:res=none:=jx (by unfold kX;rw [if_pos (Or.inr sr)]) hu;subst hr;simp only [jd,g0,g2,g3,g4,r1,r2,e1,e2];rfl
 have e2:G 150 [sb s,tm r]=some (.tup [tm (sub s r),vb true],[]):=e2;have xl:qw (sub s l):=qw.sub hv al;have xr:qw (sub s r):=qw.sub hv ar;have ml:=jV sl;have mr:=jV sr;have tl:=xl.tz (by omega);have tr:=xr.tz (by omega);have e3:=KX (sub s l) tl.wf (sub s r) tr.wf;have ll:=(jF hv).1;cases hd:dq (sub s l) (sub s r)<;>rw [hd] at e3
 rotate_left
 ·have hst:=qe (rest:=rest) sl sr hd;have hnext:=ih _ _ res (j5 hi hst).1 (kx hi hg hst) (jQ hst hu);have hnext:=hnext.1 W (0+1) d2 (by omega) hlen;simp only [jd,g0,g2,g3,g4,r1,r2,e1,e2,e3,hn];exact hnext
 have v1:=zt (sub s l).name ((kV _).1 tl.wf).1;have v2:=zt (sub s r).name ((kV _).1 tr.wf).1;have bindC:jk (sub s l).name=true\/jk (sub s r).name=true-> ∃q2:Bool,∃u:ju,G 152 [sb s,sv (jg (sub s l) (sub s r)).1,tm (jg (sub s l) (sub s r)).2]=some (.tup [sb u,vb q2],[])/\(q2=false->kY res=kY none)/\(q2=true->ZO (nA (0+1)) (nA (W.length - (0+1))) (qD u) (W.map ec) [] []=kY res):=by
  intro hvar;have hst:=qc (rest:=rest) sl sr hd hvar;obtain ⟨bv,hor⟩:=ZR hvar;have bz:Tz (jg (sub s l) (sub s r)).2:=hor.elim (λh=>by rw [h.2];exact tl) λh=>by rw [h.2];exact tr
  have bk:(jg (sub s l) (sub s r)).1∈jS (jg (sub s l) (sub s r)).2\/(jg (sub s l) (sub s r)).2.name≠(jg (sub s l) (sub s r)).1:=by
   by_cases hnm:(jg (sub s l) (sub s r)).2.name=(jg (sub s l) (sub s r)).1
   ·left;rw [vsv (by rw [hnm];exact bv),hnm];simp
   ·exact Or.inr hnm
  obtain ⟨z,eb⟩:=YP s hv _ _ bv bz bk;rw [<-Bool.and_assoc] at eb;cases hc:(!decide ((jg (sub s l) (sub s r)).1∈jS (jg (sub s l) (sub s r)).2) && jy [jg (sub s l) (sub s r)]) && jy (ky s [jg (sub s l) (sub s r)])
  ·rw [hc,if_neg Bool.false_ne_true] at hst;have eb:=eb.trans (by rw [show ((jg (sub s l) (sub s r)).1,(jg (sub s l) (sub s r)).2)=jg (sub s l) (sub s r) from rfl,hc,if_neg Bool.false_ne_true]);exact ⟨false,z,eb,λ_=>by rw [jx hst hu],λh=>by cases h⟩
  ·rw [hc,if_pos rfl] at hst;have eb:=eb.trans (by rw [show ((jg (sub s l) (sub s r)).1,(jg (sub s l) (sub s r)).2)=jg (sub s l) (sub s r) from rfl,hc,if_pos rfl]);refine ⟨true,_,eb,(λh=>by cases h),λ_=> ?_⟩;have hnext:=ih _ _ res (j5 hi hst).1 (kx hi hg hst) (jQ hst hu);exact hnext.1 W (0+1) d2 (by omega) hlen
 cases vl:jk (sub s l).name<;>rw [vl] at v1
 rotate_left
 ·cases vr:jk (sub s r).name<;>rw [vr] at v2
  ·obtain ⟨q2,u,b1,b2,b3⟩:=bindC (Or.inl vl);have hbd:jg (sub s l) (sub s r)=((sub s l).name,sub s r):=if_neg (by rw [vl,vr];simp);rw [hbd] at b1;cases q2
   ·rw [b2 rfl];simp only [jd,g0,g2,g3,g4,r1,r2,e1,e2,e3,v1,v2,b1];rfl
   ·rw [<-b3 rfl];simp only [jd,g0,g2,g3,g4,r1,r2,e1,e2,e3,v1,v2,b1,hn]
  ·cases hc:zF (sub s l).name (sub s r).name
   ·obtain ⟨q2,u,b1,b2,b3⟩:=bindC (Or.inl vl);have hbd:jg (sub s l) (sub s r)=((sub s l).name,sub s r):=if_neg (by rw [vl,vr,hc];simp);rw [hbd] at b1;cases q2
    ·rw [b2 rfl];simp only [jd,g0,g2,g3,g4,r1,r2,e1,e2,e3,v1,v2,hc,b1];rfl
    ·rw [<-b3 rfl];simp only [jd,g0,g2,g3,g4,r1,r2,e1,e2,e3,v1,v2,hc,b1,hn]
   ·obtain ⟨q2,u,b1,b2,b3⟩:=bindC (Or.inl vl);have hbd:jg (sub s l) (sub s r)=((sub s r).name,sub s l):=if_pos (Or.inr ⟨vr,hc⟩);rw [hbd] at b1;cases q2
    ·rw [b2 rfl];simp only [jd,g0,g2,g3,g4,r1,r2,e1,e2,e3,v1,v2,hc,b1];rfl
    ·rw [<-b3 rfl];simp only [jd,g0,g2,g3,g4,r1,r2,e1,e2,e3,v1,v2,hc,b1,hn]
 cases vr:jk (sub s r).name<;>rw [vr] at v2
 rotate_left
 ·obtain ⟨q2,u,b1,b2,b3⟩:=bindC (Or.inr vr);have hbd:jg (sub s l) (sub s r)=((sub s r).name,sub s l):=if_pos (Or.inl vl);rw [hbd] at b1;cases q2
  ·rw [b2 rfl];simp only [jd,g0,g2,g3,g4,r1,r2,e1,e2,e3,v1,v2,b1];rfl
  ·rw [<-b3 rfl];simp only [jd,g0,g2,g3,g4,r1,r2,e1,e2,e3,v1,v2,b1,hn]
 have hst:=qd (rest:=rest) sl sr hd vl vr;by_cases hnm:(sub s l).name=(sub s r).name;rotate_left
 ·rw [if_neg (λh=>hnm h.1)] at hst;have hnd:=decide_eq_false hnm;rw [jx hst hu];simp only [jd,g0,g2,g3,g4,r1,r2,e1,e2,e3,v1,v2,hnd];rfl
 have hnd:=decide_eq_true hnm;by_cases hal:(sub s l).args.length=(sub s r).args.length;rotate_left
 ·rw [if_neg (λh=>hal h.2)] at hst;have hal':decide ((((sub s l).args.length:Nat):Int)=(((sub s r).args.length:Nat):Int))=false:=decide_eq_false (by omega);rw [jx hst hu];simp only [jd,g0,g2,g3,g4,r1,r2,e1,e2,e3,v1,v2,hnd,hal'];rfl
 rw [if_pos ⟨hnm,hal⟩] at hst;have hnext:=ih _ _ res (j5 hi hst).1 (kx hi hg hst) (jQ hst hu);have hnext:=hnext.2.1;have hin:=jmA s W (0+1) hlen (sub s l) (sub s r) hal (JB xl);rw [d2] at hin;rw [hnext] at hin;have hal':decide ((((sub s l).args.length:Nat):Int)=(((sub s r).args.length:Nat):Int))=true:=decide_eq_true (by omega);simp only [jd,g0,g2,g3,g4,r1,r2,e1,e2,e3,v1,v2,hnd,hal',hn];exact hin
theorem jAL (k:Nat) (ih:∀(s:ju) (es:yv) (res:Option ju),qZ s es->Hgt s 126 es->km k s es=some res->USS s es (kY res)) (l r:T) (rest:yv) (hi:qZ [] ((l,r)::rest)) (hg:Hgt [] 126 ((l,r)::rest)) (res:Option ju) (hu:km (k+1) [] ((l,r)::rest)=some res) (W:yv) (off:Nat) (hW:W.drop off=(l,r)::rest) (hlen:W.length<=1000):jh5 (nA off) (nA (W.length - off)) (W.map ec) [] [] []=kY res:=by
 obtain ⟨d1,d2,d3⟩:=qa hW;obtain ⟨r1,r2⟩:=Yr d1;obtain ⟨al,ar,nl,nr⟩:=yu hi;have hv:=hi.1;have e1:=zZ [] hv l al (by omega);have e2:=zZ [] hv r ar (by omega);have w1:kU (nA off)=off:=rfl;have w2:kU (nA (W.length - off))=W.length - off:=rfl;have g1:jp .gtr false (nA (W.length - off)) (vi 0)=some (vb true):=by
  show some (vb (decide ((0:Int) < ((W.length - off:Nat):Int))))=_;rw [decide_eq_true (by omega)]
 have g2:Ke (W.length - off) (vi 0)=some 0:=zi (i:=0) (by omega);have g3:pB (W.length - off) (kZ (W.map ec) off) none=some (W.length - off):=by
  rw [show kZ (W.map ec) off=W.length - off by rw [yh,List.length_map]];exact zc (Nat.le_refl _)
 have g4:pB 0 (W.length - off) (some (vi 1))=some 1:=yg (n:=1) (by omega);have hn:jT (W.length - off) 1=W.length - (off+1):=by unfold jT;omega
 rw [juZ];cases sl:jE (sub [] l)<;>rw [sl] at e1
 ·have e1:G 150 [.agg [.sl 3 []],tm l]=some (.tup [.agg [sv [],.sl 2 []],vb false],[]):=e1;have hr:res=none:=jx (by unfold kX;rw [if_pos (Or.inl sl)]) hu;subst hr;obtain ⟨q,e2⟩:∃q:T × Bool,G 150 [.agg [.sl 3 []],tm r]=some (.tup [tm q.1,vb q.2],[]):=by
   cases h:jE (sub [] r)<;>rw [h] at e2
   ·exact ⟨(.mk [] [],false),e2⟩
   ·exact ⟨(sub [] r,true),e2⟩
  simp only [jd,w1,w2,g1,g2,g3,g4,Nat.add_zero,r1,r2,e1,e2];rfl
 have e1:G 150 [.agg [.sl 3 []],tm l]=some (.tup [tm (sub [] l),vb true],[]):=e1;cases sr:jE (sub [] r)<;>rw [sr] at e2
 ·have e2:G 150 [.agg [.sl 3 []],tm r]=some (.tup [.agg [sv [],.sl 2 []],vb false],[]):=e2;have hr:res=none:=jx (by unfold kX;rw [if_pos (Or.inr sr)]) hu;subst hr;simp only [jd,w1,w2,g1,g2,g3,g4,Nat.add_zero,r1,r2,e1,e2];rfl
 have e2:G 150 [.agg [.sl 3 []],tm r]=some (.tup [tm (sub [] r),vb true],[]):=e2;have xl:qw (sub [] l):=qw.sub hv al;have xr:qw (sub [] r):=qw.sub hv ar;have ml:=jV sl;have mr:=jV sr;have tl:=xl.tz (by omega);have tr:=xr.tz (by omega);have e3:=KX (sub [] l) tl.wf (sub [] r) tr.wf;have ll:=(jF hv).1;cases hd:dq (sub [] l) (sub [] r)<;>rw [hd] at e3
 rotate_left
 ·have hst:=qe (rest:=rest) sl sr hd;have hnext:=ih _ _ res (j5 hi hst).1 (kx hi hg hst) (jQ hst hu);have hnext:=(hnext.2.2 rfl).1 W (off+1) d2 (by omega) hlen;simp only [jd,w1,w2,g1,g2,g3,g4,Nat.add_zero,r1,r2,e1,e2,e3,hn];exact hnext
 have v1:=zt (sub [] l).name ((kV _).1 tl.wf).1;have v2:=zt (sub [] r).name ((kV _).1 tr.wf).1;have bindC:jk (sub [] l).name=true\/jk (sub [] r).name=true-> ∃q2:Bool,∃u:ju,G 152 [.agg [.sl 3 []],sv (jg (sub [] l) (sub [] r)).1,tm (jg (sub [] l) (sub [] r)).2]=some (.tup [sb u,vb q2],[])/\(q2=false->kY res=kY none)/\(q2=true->ZO (nA (off+1)) (nA (W.length - (off+1))) (qD u) (W.map ec) [] []=kY res):=by
  intro hvar;have hst:=qc (rest:=rest) sl sr hd hvar;obtain ⟨bv,hor⟩:=ZR hvar;have bz:Tz (jg (sub [] l) (sub [] r)).2:=hor.elim (λh=>by rw [h.2];exact tl) λh=>by rw [h.2];exact tr
  have bk:(jg (sub [] l) (sub [] r)).1∈jS (jg (sub [] l) (sub [] r)).2\/(jg (sub [] l) (sub [] r)).2.name≠(jg (sub [] l) (sub [] r)).1:=by
   by_cases hnm:(jg (sub [] l) (sub [] r)).2.name=(jg (sub [] l) (sub [] r)).1
   ·left;rw [vsv (by rw [hnm];exact bv),hnm];simp
   ·exact Or.inr hnm
  obtain ⟨z,eb⟩:=YP [] hv _ _ bv bz bk;rw [<-Bool.and_assoc] at eb;cases hc:(!decide ((jg (sub [] l) (sub [] r)).1∈jS (jg (sub [] l) (sub [] r)).2) && jy [jg (sub [] l) (sub [] r)]) && jy (ky [] [jg (sub [] l) (sub [] r)])
  ·rw [hc,if_neg Bool.false_ne_true] at hst;have eb:=eb.trans (by rw [show ((jg (sub [] l) (sub [] r)).1,(jg (sub [] l) (sub [] r)).2)=jg (sub [] l) (sub [] r) from rfl,hc,if_neg Bool.false_ne_true]);exact ⟨false,z,eb,λ_=>by rw [jx hst hu],λh=>by cases h⟩
  ·rw [hc,if_pos rfl] at hst;have eb:=eb.trans (by rw [show ((jg (sub [] l) (sub [] r)).1,(jg (sub [] l) (sub [] r)).2)=jg (sub [] l) (sub [] r) from rfl,hc,if_pos rfl]);refine ⟨true,_,eb,(λh=>by cases h),λ_=> ?_⟩;have hnext:=ih _ _ res (j5 hi hst).1 (kx hi hg hst) (jQ hst hu);exact hnext.1 W (off+1) d2 (by omega) hlen
 cases vl:jk (sub [] l).name<;>rw [vl] at v1
 rotate_left
 ·cases vr:jk (sub [] r).name<;>rw [vr] at v2
  ·obtain ⟨q2,u,b1,b2,b3⟩:=bindC (Or.inl vl);have hbd:jg (sub [] l) (sub [] r)=((sub [] l).name,sub [] r):=if_neg (by rw [vl,vr];simp);rw [hbd] at b1;cases q2
   ·rw [b2 rfl];simp only [jd,w1,w2,g1,g2,g3,g4,Nat.add_zero,r1,r2,e1,e2,e3,v1,v2,b1];rfl
   ·rw [<-b3 rfl];simp only [jd,w1,w2,g1,g2,g3,g4,Nat.add_zero,r1,r2,e1,e2,e3,v1,v2,b1,hn]
  ·cases hc:zF (sub [] l).name (sub [] r).name
   ·obtain ⟨q2,u,b1,b2,b3⟩:=bindC (Or.inl vl);have hbd:jg (sub [] l) (sub [] r)=((sub [] l).name,sub [] r):=if_neg (by rw [vl,vr,hc];simp);rw [hbd] at b1;cases q2
    ·rw [b2 rfl];simp only [jd,w1,w2,g1,g2,g3,g4,Nat.add_zero,r1,r2,e1,e2,e3,v1,v2,hc,b1];rfl
    ·rw [<-b3 rfl];simp only [jd,w1,w2,g1,g2,g3,g4,Nat.add_zero,r1,r2,e1,e2,e3,v1,v2,hc,b1,hn]
   ·obtain ⟨q2,u,b1,b2,b3⟩:=bindC (Or.inl vl);have hbd:jg (sub [] l) (sub [] r)=((sub [] r).name,sub [] l):=if_pos (Or.inr ⟨vr,hc⟩);rw [hbd] at b1;cases q2
    ·rw [b2 rfl];simp only [jd,w1,w2,g1,g2,g3,g4,Nat.add_zero,r1,r2,e1,e2,e3,v1,v2,hc,b1];rfl
    ·rw [<-b3 rfl];simp only [jd,w1,w2,g1,g2,g3,g4,Nat.add_zero,r1,r2,e1,e2,e3,v1,v2,hc,b1,hn]
 cases vr:jk (sub [] r).name<;>rw [vr] at v2
 rotate_left
 ·obtain ⟨q2,u,b1,b2,b3⟩:=bindC (Or.inr vr);have hbd:jg (sub [] l) (sub [] r)=((sub [] r).name,sub [] l):=if_pos (Or.inl vl);rw [hbd] at b1;cases q2
  ·rw [b2 rfl];simp only [jd,w1,w2,g1,g2,g3,g4,Nat.add_zero,r1,r2,e1,e2,e3,v1,v2,b1];rfl
  ·rw [<-b3 rfl];simp only [jd,w1,w2,g1,g2,g3,g4,Nat.add_zero,r1,r2,e1,e2,e3,v1,v2,b1,hn]
 have hst:=qd (rest:=rest) sl sr hd vl vr;by_cases hnm:(sub [] l).name=(sub [] r).name;rotate_left
 ·rw [if_neg (λh=>hnm h.1)] at hst;have hnd:=decide_eq_false hnm;rw [jx hst hu];simp only [jd,w1,w2,g1,g2,g3,g4,Nat.add_zero,r1,r2,e1,e2,e3,v1,v2,hnd];rfl
 have hnd:=decide_eq_true hnm;by_cases hal:(sub [] l).args.length=(sub [] r).args.length;rotate_left
 ·rw [if_neg (λh=>hal h.2)] at hst;have hal':decide ((((sub [] l).args.length:Nat):Int)=(((sub [] r).args.length:Nat):Int))=false:=decide_eq_false (by omega);rw [jx hst hu];simp only [jd,w1,w2,g1,g2,g3,g4,Nat.add_zero,r1,r2,e1,e2,e3,v1,v2,hnd,hal'];rfl
 rw [if_pos ⟨hnm,hal⟩] at hst;have hnext:=ih _ _ res (j5 hi hst).1 (kx hi hg hst) (jQ hst hu);have hnext:=(hnext.2.2 rfl).2;have hin:=jmz W (off+1) hlen (sub [] l) (sub [] r) hal (JB xl);rw [d2] at hin;rw [hnext] at hin;have hal':decide ((((sub [] l).args.length:Nat):Int)=(((sub [] r).args.length:Nat):Int))=true:=decide_eq_true (by omega);simp only [jd,w1,w2,g1,g2,g3,g4,Nat.add_zero,r1,r2,e1,e2,e3,v1,v2,hnd,hal',hn];exact hin
theorem jAN (k:Nat) (ih:∀(s:ju) (es:yv) (res:Option ju),qZ s es->Hgt s 126 es->km k s es=some res->USS s es (kY res)) (l r:T) (rest:yv) (hi:qZ [] ((l,r)::rest)) (hg:Hgt [] 126 ((l,r)::rest)) (res:Option ju) (hu:km (k+1) [] ((l,r)::rest)=some res) (W:yv) (hW:W=(l,r)::rest) (hlen:W.length<=1000):jda (W.map ec) [] [] []=kY res:=by
 have hW0:W.drop 0=(l,r)::rest:=hW;obtain ⟨d1,d2,d3⟩:=qa hW0;obtain ⟨r1,r2⟩:=Yr d1;obtain ⟨al,ar,nl,nr⟩:=yu hi;have hv:=hi.1;have e1:=zZ [] hv l al (by omega);have e2:=zZ [] hv r ar (by omega);have g1:jp .gtr false (zv (W.map ec)) (vi 0)=some (vb true):=by
  rw [Kt,List.length_map,Yf,decide_eq_true (by omega)]
 have g2:Ke W.length (vi 0)=some 0:=zi (i:=0) (by omega);have g3:pB (zx (W.map ec)) (kZ (W.map ec) 0) none=some W.length:=by
  rw [zX,show kZ (W.map ec) 0=W.length by rw [yh,List.length_map];rfl];exact zc (Nat.le_refl _)
 have g4:pB 0 W.length (some (vi 1))=some 1:=yg (n:=1) (by omega);have g0:(0:Int) < ((W.length:Nat):Int):=by omega
 have hn:jT (W.length) 1=W.length - (0+1):=by unfold jT;omega
 rw [jqM];cases sl:jE (sub [] l)<;>rw [sl] at e1
 ·have e1:G 150 [.agg [.sl 3 []],tm l]=some (.tup [.agg [sv [],.sl 2 []],vb false],[]):=e1;have hr:res=none:=jx (by unfold kX;rw [if_pos (Or.inl sl)]) hu;subst hr;obtain ⟨q,e2⟩:∃q:T × Bool,G 150 [.agg [.sl 3 []],tm r]=some (.tup [tm q.1,vb q.2],[]):=by
   cases h:jE (sub [] r)<;>rw [h] at e2
   ·exact ⟨(.mk [] [],false),e2⟩
   ·exact ⟨(sub [] r,true),e2⟩
  simp only [jd,g0,g2,g3,g4,r1,r2,e1,e2];rfl
 have e1:G 150 [.agg [.sl 3 []],tm l]=some (.tup [tm (sub [] l),vb true],[]):=e1;cases sr:jE (sub [] r)<;>rw [sr] at e2
 ·have e2:G 150 [.agg [.sl 3 []],tm r]=some (.tup [.agg [sv [],.sl 2 []],vb false],[]):=e2;have hr:res=none:=jx (by unfold kX;rw [if_pos (Or.inr sr)]) hu;subst hr;simp only [jd,g0,g2,g3,g4,r1,r2,e1,e2];rfl
 have e2:G 150 [.agg [.sl 3 []],tm r]=some (.tup [tm (sub [] r),vb true],[]):=e2;have xl:qw (sub [] l):=qw.sub hv al;have xr:qw (sub [] r):=qw.sub hv ar;have ml:=jV sl;have mr:=jV sr;have tl:=xl.tz (by omega);have tr:=xr.tz (by omega);have e3:=KX (sub [] l) tl.wf (sub [] r) tr.wf;have ll:=(jF hv).1;cases hd:dq (sub [] l) (sub [] r)<;>rw [hd] at e3
 rotate_left
 ·have hst:=qe (rest:=rest) sl sr hd;have hnext:=ih _ _ res (j5 hi hst).1 (kx hi hg hst) (jQ hst hu);have hnext:=(hnext.2.2 rfl).1 W (0+1) d2 (by omega) hlen;simp only [jd,g0,g2,g3,g4,r1,r2,e1,e2,e3,hn];exact hnext
 have v1:=zt (sub [] l).name ((kV _).1 tl.wf).1;have v2:=zt (sub [] r).name ((kV _).1 tr.wf).1;have bindC:jk (sub [] l).name=true\/jk (sub [] r).name=true-> ∃q2:Bool,∃u:ju,G 152 [.agg [.sl 3 []],sv (jg (sub [] l) (sub [] r)).1,tm (jg (sub [] l) (sub [] r)).2]=some (.tup [sb u,vb q2],[])/\(q2=false->kY res=kY none)/\(q2=true->ZO (nA (0+1)) (nA (W.length - (0+1))) (qD u) (W.map ec) [] []=kY res):=by
  intro hvar;have hst:=qc (rest:=rest) sl sr hd hvar;obtain ⟨bv,hor⟩:=ZR hvar;have bz:Tz (jg (sub [] l) (sub [] r)).2:=hor.elim (λh=>by rw [h.2];exact tl) λh=>by rw [h.2];exact tr
  have bk:(jg (sub [] l) (sub [] r)).1∈jS (jg (sub [] l) (sub [] r)).2\/(jg (sub [] l) (sub [] r)).2.name≠(jg (sub [] l) (sub [] r)).1:=by
   by_cases hnm:(jg (sub [] l) (sub [] r)).2.name=(jg (sub [] l) (sub [] r)).1
   ·left;rw [vsv (by rw [hnm];exact bv),hnm];simp
   ·exact Or.inr hnm
  obtain ⟨z,eb⟩:=YP [] hv _ _ bv bz bk;rw [<-Bool.and_assoc] at eb;cases hc:(!decide ((jg (sub [] l) (sub [] r)).1∈jS (jg (sub [] l) (sub [] r)).2) && jy [jg (sub [] l) (sub [] r)]) && jy (ky [] [jg (sub [] l) (sub [] r)])
  ·rw [hc,if_neg Bool.false_ne_true] at hst;have eb:=eb.trans (by rw [show ((jg (sub [] l) (sub [] r)).1,(jg (sub [] l) (sub [] r)).2)=jg (sub [] l) (sub [] r) from rfl,hc,if_neg Bool.false_ne_true]);exact ⟨false,z,eb,λ_=>by rw [jx hst hu],λh=>by cases h⟩
  ·rw [hc,if_pos rfl] at hst;have eb:=eb.trans (by rw [show ((jg (sub [] l) (sub [] r)).1,(jg (sub [] l) (sub [] r)).2)=jg (sub [] l) (sub [] r) from rfl,hc,if_pos rfl]);refine ⟨true,_,eb,(λh=>by cases h),λ_=> ?_⟩;have hnext:=ih _ _ res (j5 hi hst).1 (kx hi hg hst) (jQ hst hu);exact hnext.1 W (0+1) d2 (by omega) hlen
 cases vl:jk (sub [] l).name<;>rw [vl] at v1
 rotate_left
 ·cases vr:jk (sub [] r).name<;>rw [vr] at v2
  ·obtain ⟨q2,u,b1,b2,b3⟩:=bindC (Or.inl vl);have hbd:jg (sub [] l) (sub [] r)=((sub [] l).name,sub [] r):=if_neg (by rw [vl,vr];simp);rw [hbd] at b1;cases q2
   ·rw [b2 rfl];simp only [jd,g0,g2,g3,g4,r1,r2,e1,e2,e3,v1,v2,b1];rfl
   ·rw [<-b3 rfl];simp only [jd,g0,g2,g3,g4,r1,r2,e1,e2,e3,v1,v2,b1,hn]
  ·cases hc:zF (sub [] l).name (sub [] r).name
   ·obtain ⟨q2,u,b1,b2,b3⟩:=bindC (Or.inl vl);have hbd:jg (sub [] l) (sub [] r)=((sub [] l).name,sub [] r):=if_neg (by rw [vl,vr,hc];simp);rw [hbd] at b1;cases q2
    ·rw [b2 rfl];simp only [jd,g0,g2,g3,g4,r1,r2,e1,e2,e3,v1,v2,hc,b1];rfl
    ·rw [<-b3 rfl];simp only [jd,g0,g2,g3,g4,r1,r2,e1,e2,e3,v1,v2,hc,b1,hn]
   ·obtain ⟨q2,u,b1,b2,b3⟩:=bindC (Or.inl vl);have hbd:jg (sub [] l) (sub [] r)=((sub [] r).name,sub [] l):=if_pos (Or.inr ⟨vr,hc⟩);rw [hbd] at b1;cases q2
    ·rw [b2 rfl];simp only [jd,g0,g2,g3,g4,r1,r2,e1,e2,e3,v1,v2,hc,b1];rfl
    ·rw [<-b3 rfl];simp only [jd,g0,g2,g3,g4,r1,r2,e1,e2,e3,v1,v2,hc,b1,hn]
 cases vr:jk (sub [] r).name<;>rw [vr] at v2
 rotate_left
 ·obtain ⟨q2,u,b1,b2,b3⟩:=bindC (Or.inr vr);have hbd:jg (sub [] l) (sub [] r)=((sub [] r).name,sub [] l):=if_pos (Or.inl vl);rw [hbd] at b1;cases q2
  ·rw [b2 rfl];simp only [jd,g0,g2,g3,g4,r1,r2,e1,e2,e3,v1,v2,b1];rfl
  ·rw [<-b3 rfl];simp only [jd,g0,g2,g3,g4,r1,r2,e1,e2,e3,v1,v2,b1,hn]
 have hst:=qd (rest:=rest) sl sr hd vl vr;by_cases hnm:(sub [] l).name=(sub [] r).name;rotate_left
 ·rw [if_neg (λh=>hnm h.1)] at hst;have hnd:=decide_eq_false hnm;rw [jx hst hu];simp only [jd,g0,g2,g3,g4,r1,r2,e1,e2,e3,v1,v2,hnd];rfl
 have hnd:=decide_eq_true hnm;by_cases hal:(sub [] l).args.length=(sub [] r).args.length;rotate_left
 ·rw [if_neg (λh=>hal h.2)] at hst;have hal':decide ((((sub [] l).args.length:Nat):Int)=(((sub [] r).args.length:Nat):Int))=false:=decide_eq_false (by omega);rw [jx hst hu];simp only [jd,g0,g2,g3,g4,r1,r2,e1,e2,e3,v1,v2,hnd,hal'];rfl
 rw [if_pos ⟨hnm,hal⟩] at hst;have hnext:=ih _ _ res (j5 hi hst).1 (kx hi hg hst) (jQ hst hu);have hnext:=(hnext.2.2 rfl).2;have hin:=jmz W (0+1) hlen (sub [] l) (sub [] r) hal (JB xl);rw [d2] at hin;rw [hnext] at hin;have hal':decide ((((sub [] l).args.length:Nat):Int)=(((sub [] r).args.length:Nat):Int))=true:=decide_eq_true (by omega);simp only [jd,g0,g2,g3,g4,r1,r2,e1,e2,e3,v1,v2,hnd,hal',hn];exact hin
theorem jrR (s:ju):USS s [] (kY (some s)):=by
 refine ⟨λW off hW h1 h2=> ?_,?_,λhs=> ?_⟩
 ·have h3:=congrArg List.length hW;rw [List.length_drop,List.length_nil] at h3;have w2:kU (nA (W.length - off))=W.length - off:=rfl;have g1:jp .gtr false (nA (W.length - off)) (vi 0)=some (vb false):=by
   show some (vb (decide ((0:Int) < ((W.length - off:Nat):Int))))=_;rw [decide_eq_false (by omega)]
  rw [ju0];simp only [jd,w2,g1];rfl
 ·rw [ju3];have g1:jp .gtr false (zv (List.map ec [])) (vi 0)=some (vb false):=rfl;simp only [jd,g1];rfl
 ·subst hs;refine ⟨λW off hW h1 h2=> ?_,?_⟩
  ·have h3:=congrArg List.length hW;rw [List.length_drop,List.length_nil] at h3;have w2:kU (nA (W.length - off))=W.length - off:=rfl;have g1:jp .gtr false (nA (W.length - off)) (vi 0)=some (vb false):=by
    show some (vb (decide ((0:Int) < ((W.length - off:Nat):Int))))=_;rw [decide_eq_false (by omega)]
   rw [juZ];simp only [jd,w2,g1];rfl
  ·rw [jqM];have g1:jp .gtr false (zv (List.map ec [])) (vi 0)=some (vb false):=rfl;simp only [jd,g1];rfl
theorem jwK:∀(k:Nat) (s:ju) (es:yv) (res:Option ju),qZ s es->Hgt s 126 es->km k s es=some res->USS s es (kY res):=by
 intro k;induction k with
 | zero=>
  intro s es res hi hg hu;cases es with
  | nil=>simp only [km,Option.some.injEq] at hu;rw [<-hu];exact jrR s
  | cons p es=>simp [km] at hu
 | succ k ih=>
  intro s es res hi hg hu;cases es with
  | nil=>simp only [km,Option.some.injEq] at hu;rw [<-hu];exact jrR s
  | cons p rest=>
   obtain ⟨l,r⟩:=p;have hl:=hg.len;refine ⟨λW off hW _ hlen=>jAM k ih s l r rest hi hg res hu W off hW hlen,jAO k ih s l r rest hi hg res hu _ rfl (by omega),λhs=> ?_⟩;subst hs;exact ⟨λW off hW _ hlen=>jAL k ih l r rest hi hg res hu W off hW hlen,jAN k ih l r rest hi hg res hu _ rfl (by omega)⟩
theorem jyr (W:yv):jo8 (W.map ec) [] [] []=jda (W.map ec) [] [] []:=by
 rw [jxW,jqM]
theorem jdQ (a b:T) (ha:Exx a) (hb:Exx b):G 96 [tm a,tm b]=kY (J9 a b):=by
 obtain ⟨k,hk⟩:=Kx ha hb;have h:=((jwK k [] [(a,b)] _ (jj0 ha hb) (jxM a b) hk).2.2 rfl).2;rw [<-jyr] at h;rw [g96];simp only [jd];exact h
open Go Go.RowKit Go.ChangeShapes Go.Deep Go.Proofs.YtdbgbieenhcldaaGreatDoor.Abs
section
variable {P:Program} {t:Nat} {H:Type} {enc:TypeId × Value->H} {w:World} {base:Nat} {spare:Nat->Bool} {held:Bool} {fuel:Nat} {cs:List Value} {x:DataW H × List MemPlace}
end
abbrev Jx (c:jO):List A:=[.sl 3 (c.map jC)]
structure Stp where
 rule:Int
 par:List Int
 whr:List Int
 cls:jO
abbrev stc (s:Stp):List A:=[vi s.rule,ints s.par,ints s.whr,.sl 3 (s.cls.map jC)]
abbrev stm (s:Stp):A:= .agg [vi s.rule,ints s.par,ints s.whr,.sl 3 (s.cls.map jC)]
structure Prf where
 ax:List jO
 st:List Stp
abbrev cls (l:List jO):A:= .sl 1 (l.map Jx)
abbrev jtU (l:List Stp):A:= .sl 4 (l.map stc)
abbrev prc (p:Prf):List A:=[cls p.ax,jtU p.st]
abbrev prm (p:Prf):A:= .agg [cls p.ax,jtU p.st]
structure Sch where
 prf:Prf
 act:List Int
 pas:List Int
 lost:Bool
abbrev scc (s:Sch):List A:=[cls s.prf.ax,jtU s.prf.st,ints s.act,ints s.pas,vb s.lost]
abbrev scm (s:Sch):A:= .agg [cls s.prf.ax,jtU s.prf.st,ints s.act,ints s.pas,vb s.lost]
def iwf (l:List Int):Prop:=(∀x∈l,I64 x)/\l.length<=9223372036854775807
def cwf (c:jO):Prop:=(∀l∈c,twf l.2)/\c.length<=9223372036854775807
def swf (s:Stp):Prop:=I64 s.rule/\iwf s.par/\iwf s.whr/\cwf s.cls
def pwf (p:Prf):Prop:=((∀c∈p.ax,cwf c)/\p.ax.length<=9223372036854775807)/\((∀s∈p.st,swf s)/\p.st.length<=9223372036854775807)
def jBb (s:Sch):Prop:=pwf s.prf/\iwf s.act/\iwf s.pas
def lsz:jO->Nat
 | []=>0
 | l::c=>tsz l.2+lsz c
def csz (c:jO):Nat:=c.length+lsz c
def jxv:List jO->Nat
 | []=>0
 | c::l=>csz c+jxv l
def ssz (s:Stp):Nat:=s.par.length+s.whr.length+csz s.cls
def jyk:List Stp->Nat
 | []=>0
 | s::l=>ssz s+jyk l
def psz (p:Prf):Nat:=(p.ax.length+jxv p.ax)+(p.st.length+jyk p.st)
def jBa (s:Sch):Nat:=psz s.prf+s.act.length+s.pas.length
end Go.Proofs.YtdbgbieenhcldaaGreatDoor
