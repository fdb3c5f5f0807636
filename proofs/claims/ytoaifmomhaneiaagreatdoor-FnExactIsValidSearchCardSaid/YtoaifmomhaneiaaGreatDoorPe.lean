/- Pe -/
import Derived.Test.YtoaifmomhaneiaaGreatDoorPd
import Derived.Test.YtoaifmomhaneiaaGreatDoorPq
namespace Go.Proofs.YtoaifmomhaneiaaGreatDoor
open Go Go.RowKit Go.Proofs.YtoaifmomhaneiaaGreatDoor.Abs
set_option linter.unusedSimpArgs false
set_option linter.unusedVariables false
set_option maxHeartbeats 1000000
theorem jpa (x y:List UInt8):(yT x y || decide (x=y))=!yT y x:=by
 rw [Qa,Qa];by_cases h1:x < y
 .rw [jW h1,kA (λh2=>jhn _ (jhm h1 h2))];rfl
 .by_cases h2:x=y
  .subst h2;rw [kA h1,jW rfl];rfl
  .rw [kA h1,kA h2,jW (jzK h1 h2)];rfl
theorem jwh (b:Bool) (x y:List UInt8):jr .leq b (sv x) (sv y)=some (vb (!yT y x)):=by rw [<-jpa];rfl
theorem jwg (b:Bool) (x y:List UInt8):jr .geq b (sv x) (sv y)=some (vb (!yT x y)):=rfl
def jea:Option (List UInt8)->jz->Bool
 | _,[]=>true
 | none,q::r=>ju q.1 && (kZ q.2 && (!decide (q.2.name=q.1) && jea (some q.1) r))
 | some m,q::r=>yT m q.1 && (ju q.1 && (kZ q.2 && (!decide (q.2.name=q.1) && jea (some q.1) r)))
def okB (q:List UInt8 × T):Bool:=ju q.1 && (kZ q.2 && !decide (q.2.name=q.1))
theorem jmW:∀(s:jz) (m:List UInt8) (t:T),jea (some m) s=(jpQ ((m,t)::s) && s.all okB)
 | [],m,t=>rfl
 | q::r,m,t=>by
  rw [jea,jmW r q.1 q.2,jpQ,zB,okB];cases yT m q.1<;>cases ju q.1<;>cases kZ q.2<;>cases decide (q.2.name=q.1)<;>simp
theorem jmV (s:jz):(jea none s && decide (s.length<=12))=jI s:=by
 have hd:∀q:List UInt8 × T,dq q.2.name q.1=decide (q.2.name=q.1):=λq=>by
  by_cases h:q.2.name=q.1
  .rw [Ji.2 h,jW h]
  .rw [jjs.2 h,kA h]
 have ha:s.all (λq=>ju q.1 && (kZ q.2 && !dq q.2.name q.1))=s.all okB:=by
  unfold okB;congr 1;funext q;rw [hd]
 unfold jI;rw [ha];cases s with
 | nil=>rfl
 | cons q r=>
  rw [jea,jmW r q.1 q.2,zB];unfold okB;cases ju q.1<;>cases kZ q.2<;>cases decide (q.2.name=q.1)<;>simp [Bool.and_comm]
def SzB (s:jz):Prop:=s.length<=1000000/\ ∀q∈s,q.1.length<=1000000/\Tz q.2
theorem SzB.sz {s:jz} (h:SzB s):Sz 1048576 s:=⟨by have:=h.1;omega,λq hq=>⟨by have:=(h.2 q hq).1;omega,(h.2 q hq).2⟩⟩
theorem yO {s:jz} (h:jI s=true):SzB s:=by
 obtain ⟨h1,_,h3⟩:=j7 h;refine ⟨by omega,λq hq=>⟨?_,?_⟩⟩
 .have:=jgb (h3 q hq).1;omega
 .have:=jgY q.2 (jd4 (h3 q hq).2.1);have:=Yw h q hq;unfold Tz;omega
theorem Z4 (q:List UInt8 × T):ky 3 (.elt (bc q) 0)=some (.agg [sv q.1,sv q.2.name,jQ q.2.args]):=rfl
theorem jmZ (s:jz) (hs:SzB s):G 279 [sb s]=some (vb (jI s),[]):=by
 have hl:=hs.1;have key:=upto (P:=λi=>∀p:Option (List UInt8),(p=none↔i=0)->(∀m,p=some m-> ∃h:i - 1 < s.length,s[i - 1].1=m)->jnW (Zz s) (vi (s.length:Nat)) (vi (i:Nat)) (Zz s)=some (vb (jea p (s.drop i) && decide (s.length<=12)),[])) (n:=s.length) ?_ ?_ 0 (jD _) none (by simp) (λm h=>by cases h)
 .simp only [jP,kg] at key;rw [jmV] at key;rw [jMm];simp only [jd,key]
 .intro p _ _;have e:decide (((s.length:Nat):Int)<=12)=decide (s.length<=12):=by congr 1;exact propext (by omega)
  have:jea p []=true:=by cases p<;>rfl
  rw [jzm,j6,this,jJ,<-e];simp only [jd]
 .intro i hi ih p hp hq;have hlt:(i:Int) < ((s.length:Nat):Int):=by omega
  have h5:=jm hi (by show s.length<=9223372036854775807;omega)
  have hm:=hs.2 _ (jo hi);have e1:=jel s[i].1 (by show s[i].1.length<=9223372036854775807;omega);have e2:=jc7 s[i].2 hm.2.wf hm.2;have ih:=ih (some s[i].1) (by simp) (λm h=>by cases h;exact ⟨by simpa using hi,rfl⟩);rw [jzm,jh hi];have e3:decide (s[i].2.name=s[i].1)=decide (s[i].2.name=s[i].1):=rfl;generalize hn:decide (s[i].2.name=s[i].1)=nn at *;have e4:jr .eql false (sv s[i].2.name) (sv s[i].1)=some (vb nn):=by rw [jg0,hn]
  generalize hv:jea (some s[i].1) (s.drop (i+1))=vv at *;cases p with
  | none=>
   have h0:¬(0:Int) < (i:Int):=by have:=hp.1 rfl;omega
   rw [jea,hn,hv];cases hb:ju s[i].1<;>rw [hb] at e1
   .simp only [jd,hlt,ja hi,Z4,e1,jH]
   cases hk:kZ s[i].2<;>rw [hk] at e2
   .simp only [jd,hlt,ja hi,Z4,e1,e2,h0,jH,jJ]
   cases nn
   .simp only [jd,hlt,ja hi,Z4,e1,e2,h0,e4,h5,ih,jJ]
   .simp only [jd,hlt,ja hi,Z4,e1,e2,h0,e4,jH,jJ]
  | some m=>
   obtain ⟨hq1,rfl⟩:=hq m rfl;have h0:(0:Int) < (i:Int):=by
    have:¬i=0:=λh=>by have:=hp.2 h;cases this
    omega
   have c1:ck ((i:Int) - 1)=some (vi ((i - 1:Nat):Int)):=by rw [show (i:Int) - 1=((i - 1:Nat):Int) by omega];exact jZ (by omega) (by omega)
   have e5:=jwh false s[i].1 s[i - 1].1;rw [jea,hn,hv];cases hb:ju s[i].1<;>rw [hb] at e1
   .rw [jH,yb];simp only [jd,hlt,ja hi,Z4,e1,jH]
   cases hc:yT s[i - 1].1 s[i].1<;>rw [hc] at e5
   .simp only [jd,hlt,ja hi,ja hq1,Z4,qo,yu,e1,h0,c1,e5,jH]
   cases hk:kZ s[i].2<;>rw [hk] at e2
   .simp only [jd,hlt,ja hi,ja hq1,Z4,qo,yu,e1,h0,c1,e5,e2,jH,jJ]
   cases nn
   .simp only [jd,hlt,ja hi,ja hq1,Z4,qo,yu,e1,h0,c1,e5,e2,e4,h5,ih,jJ]
   .simp only [jd,hlt,ja hi,ja hq1,Z4,qo,yu,e1,h0,c1,e5,e2,e4,jH,jJ]
theorem jd3 (s:jz) (hs:SzB s):G 259 [sb s]=some (vb (jI s),[]):=by
 have hl:=hs.1;have key:=upto (P:=λi=>∀p:Option (List UInt8),(p=none↔i=0)->(∀m,p=some m-> ∃h:i - 1 < s.length,s[i - 1].1=m)->jnT (vi (i:Nat)) (Zz s)=some (vb (jea p (s.drop i) && decide (s.length<=12)),[])) (n:=s.length) ?_ ?_ 0 (jD _) none (by simp) (λm h=>by cases h)
 .simp only [jP,kg] at key;rw [jmV] at key;rw [jL5];simp only [jd,key]
 .intro p _ _;have e:decide (((s.length:Nat):Int)<=12)=decide (s.length<=12):=by congr 1;exact propext (by omega)
  have:jea p []=true:=by cases p<;>rfl
  rw [jzh,j6,this,jJ,<-e];simp only [jd]
 .intro i hi ih p hp hq;have hlt:(i:Int) < ((s.length:Nat):Int):=by omega
  have h5:=jm hi (by show s.length<=9223372036854775807;omega)
  have hm:=hs.2 _ (jo hi);have e1:=zy s[i].1 (by show s[i].1.length<=9223372036854775807;omega);have e2:=Zd s[i].2 hm.2.wf hm.2;have ih:=ih (some s[i].1) (by simp) (λm h=>by cases h;exact ⟨by simpa using hi,rfl⟩);rw [jzh,jh hi];generalize hn:decide (s[i].2.name=s[i].1)=nn at *;have e4:jr .eql false (sv s[i].2.name) (sv s[i].1)=some (vb nn):=by rw [jg0,hn]
  generalize hv:jea (some s[i].1) (s.drop (i+1))=vv at *;cases p with
  | none=>
   have h0:¬(0:Int) < (i:Int):=by have:=hp.1 rfl;omega
   rw [jea,hn,hv];cases hb:ju s[i].1<;>rw [hb] at e1
   .simp only [jd,hlt,ja hi,Z4,e1,jH]
   cases hk:kZ s[i].2<;>rw [hk] at e2
   .simp only [jd,hlt,ja hi,Z4,e1,e2,h0,jH,jJ]
   cases nn
   .simp only [jd,hlt,ja hi,Z4,e1,e2,h0,e4,h5,ih,jJ]
   .simp only [jd,hlt,ja hi,Z4,e1,e2,h0,e4,jH,jJ]
  | some m=>
   obtain ⟨hq1,rfl⟩:=hq m rfl;have h0:(0:Int) < (i:Int):=by
    have:¬i=0:=λh=>by have:=hp.2 h;cases this
    omega
   have c1:ck ((i:Int) - 1)=some (vi ((i - 1:Nat):Int)):=by rw [show (i:Int) - 1=((i - 1:Nat):Int) by omega];exact jZ (by omega) (by omega)
   have e5:=jwg false s[i - 1].1 s[i].1;rw [jea,hn,hv];cases hb:ju s[i].1<;>rw [hb] at e1
   .rw [jH,yb];simp only [jd,hlt,ja hi,Z4,e1,jH]
   cases hk:kZ s[i].2<;>rw [hk] at e2
   .rw [jH,yb,yb];simp only [jd,hlt,ja hi,ja hq1,Z4,qo,yu,e1,e2,jH,jJ]
   cases nn
   .cases hc:yT s[i - 1].1 s[i].1<;>rw [hc] at e5
    .simp only [jd,hlt,ja hi,ja hq1,Z4,qo,yu,e1,h0,c1,e5,e2,e4,jH]
    .simp only [jd,hlt,ja hi,ja hq1,Z4,qo,yu,e1,h0,c1,e5,e2,e4,h5,ih,jJ]
   .rw [jan,jH,yb,yb,yb];simp only [jd,hlt,ja hi,ja hq1,Z4,qo,yu,e1,h0,c1,e5,e2,e4,jH,jJ]
theorem jAi {α:Type} {R:α->α->Prop} (irr:∀a,¬R a a) (asy:∀a b,R a b-> ¬R b a):∀ {l m:List α},l.Pairwise R->m.Pairwise R->(∀x,x∈l↔x∈m)->l=m
 | [],[],_,_,_=>rfl
 | [],b::m,_,_,hx=>absurd ((hx b).2 (by simp)) (by simp)
 | a::l,[],_,_,hx=>absurd ((hx a).1 (by simp)) (by simp)
 | a::l,b::m,h1,h2,hx=>by
  obtain ⟨g1,g2⟩:=qi.1 h1;obtain ⟨k1,k2⟩:=qi.1 h2;have hab:a=b:=by
   rcases kW.1 ((hx a).1 (by simp)) with e|e
   .exact e
   rcases kW.1 ((hx b).2 (by simp)) with e'|e'
   .exact e'.symm
   .exact (asy _ _ (k1 a e) (g1 b e')).elim
  subst hab;have:l=m:=jAi irr asy g2 k2 λx=>by
   constructor
   .intro hxl;rcases kW.1 ((hx x).1 (by simp [hxl])) with e|e
    .exact (irr x (e ▸ g1 x hxl)).elim
    .exact e
   .intro hxm;rcases kW.1 ((hx x).2 (by simp [hxm])) with e|e
    .exact (irr x (e ▸ k1 x hxm)).elim
    .exact e
  rw [this]
theorem jaZ {x y z:List UInt8} (h1:yT x y=true) (h2:yT y z=true):yT x z=true:=by
 rw [Qa,kK] at *;exact jhm h1 h2
theorem jof:∀ {s:jz},jpQ s=true->s.Pairwise λp q=>yT p.1 q.1=true
 | [],_=>List.Pairwise.nil
 | [p],_=>by simp
 | p::q::s,h=>by
  rw [jpQ,jy] at h;have ih:=jof h.2;refine qi.2 ⟨λx hx=> ?_,ih⟩;rcases kW.1 hx with e|e
  .rw [e];exact h.1
  .exact jaZ h.1 ((qi.1 ih).1 x e)
theorem jFW {m:Nat} (h:m<=2000000):Jb .u64 (vi (m:Nat))=some (.val (.int .u64 (m:Nat))):=by
 show some (A.val (.int .u64 (IntKind.u64.wrap (m:Nat))))=_;have:IntKind.u64.wrap ((m:Nat):Int)=(m:Nat):=by
  unfold IntKind.wrap;simp [IntKind.bits,IntKind.signed];omega
 rw [this]
theorem jFX {m:Nat} (h:m<=2000000):jr .shr false (.val (.int .u64 (m:Nat))) (.val (.int .u64 1))=some (.val (.int .u64 ((m / 2:Nat):Int))):=by
 show some (A.val (.int .u64 (((m:Nat):Int).fdiv (2 ^ min 1 64))))=_;rw [Int.fdiv_eq_ediv_of_nonneg _ (by decide)];rfl
theorem jFY {m:Nat} (h:m<=2000000):Jb .i64 (.val (.int .u64 (m:Nat)))=some (vi (m:Nat)):=jZ (by omega) (by omega)
theorem juy (x y:List UInt8):zE x y < 0↔yT x y=true:=by
 unfold zE;cases h:yT x y with
 | true=>simp
 | false=>
  rw [jq kx];split<;>simp
theorem jsc (q:List UInt8 × T) (n:List UInt8):G 315 [.agg (bc q),sv n]=some (vi (zE q.1 n),[]):=by
 have e:=jcV q.1 n;rw [jMJ];simp only [jd,e]
theorem jhQ {s:jz} (hs:s.Pairwise λp q=>yT p.1 q.1=true) {n:List UInt8} {i:Nat} (h1:∀k,(h:k < s.length)->k < i->yT s[k].1 n=true) (h2:∀k,(h:k < s.length)->i<=k->yT s[k].1 n=false):look s n=if h:i < s.length then (if s[i].1=n then some s[i].2 else none) else none:=by
 have hne:∀k,(h:k < s.length)->k≠i->s[k].1≠n:=λk h hk e=>by
  rcases jb6 k i with hl|hl
  .have:=h1 k h hl;rw [e,jbT] at this;cases this
  .have hi:i < k:=by omega
   have:=(jhq.1 hs) i k (by omega) h hi;rw [e] at this;rw [h2 i (by omega) (kH _)] at this;cases this
 split
 .rename_i hi;split
  .rename_i he;have hm:(n,s[i].2)∈s:=by rw [<-he];exact jo hi
   cases hl:look s n with
   | none=>exact (JJ.1 hl _ hm rfl).elim
   | some r=>
    obtain ⟨k,hk,e⟩:=jlg.1 (J8 hl);have:k=i:=Classical.byContradiction λh=>hne k hk h (by rw [e]);subst this;rw [e]
  .rename_i he;refine JJ.2 λp hp=> ?_;obtain ⟨k,hk,rfl⟩:=jlg.1 hp;by_cases h:k=i
   .subst h;exact he
   .exact hne k hk h
 .rename_i hi;refine JJ.2 λp hp=> ?_;obtain ⟨k,hk,rfl⟩:=jlg.1 hp;exact hne k hk (by omega)
theorem jrZ (s:jz) (hl:s.length<=1000000) (hs:s.Pairwise λp q=>yT p.1 q.1=true) (n:List UInt8):∀(d i j:Nat),j - i<=d->i<=j->j<=s.length->(∀k,(h:k < s.length)->k < i->yT s[k].1 n=true)->(∀k,(h:k < s.length)->j<=k->yT s[k].1 n=false)->
  ∃(i':Nat) (b:Bool),jjg (Zz s) (sv n) (.fn 315 []) (vi (s.length:Nat)) (vi (i:Nat)) (vi (j:Nat))=some (.tup [vi (i':Nat),vb b],[])/\look s n=(if h:i' < s.length then (if b then some s[i'].2 else none) else none)/\(b=true->i' < s.length):=by
 intro d;induction d with
 | zero=>
  intro i j hd hij hj h1 h2;have hij:i=j:=by omega
  subst hij;have hlt:¬(i:Int) < (i:Int):=by omega
  have hp:K.pureF 315=true:=rfl;rw [jzB];by_cases hi:i < s.length
  .have hi':(i:Int) < ((s.length:Nat):Int):=by omega
   have cc:DX.run K (MM K) (.callc (.fn 315 []) [.agg (bc s[i]),sv n] false)=some (vi (zE s[i].1 n)):=by
    rw [qD hp,JD,jsc];rfl
   refine ⟨i,decide (s[i].1=n),?_,?_,λ_=>hi⟩
   .have hz:decide (zE s[i].1 n=0)=decide (s[i].1=n):=jhi.2 (ZD.zero _ _);rw [<-hz];simp only [jd,hlt,hi',ja hi,Z4,cc]
   .rw [jhQ hs h1 h2,dif_pos hi,dif_pos hi];by_cases he:s[i].1=n
    .rw [jp he,jW he,jp rfl]
    .rw [jq he,kA he,jq kx]
  .have hi':¬(i:Int) < ((s.length:Nat):Int):=by omega
   refine ⟨i,false,?_,?_,λh=>by cases h⟩
   .simp only [jd,hlt,hi']
   .rw [jhQ hs h1 h2,dif_neg hi,dif_neg hi]
 | succ d ih=>
  intro i j hd hij hj h1 h2;by_cases hlt0:i < j;rotate_left
  .exact ih i j (by omega) hij hj h1 h2
  have hlt:(i:Int) < (j:Int):=by omega
  have hp:K.pureF 315=true:=rfl;have hm:(i+j) / 2 < s.length:=by omega
  have c0:ck ((i:Int)+(j:Int))=some (vi ((i+j:Nat):Int)):=jZ (by omega) (by omega);have c1:=jFW (m:=i+j) (by omega);have c2:=jFX (m:=i+j) (by omega);have c3:=jFY (m:=(i+j) / 2) (by omega);have cc:DX.run K (MM K) (.callc (.fn 315 []) [.agg (bc s[(i+j) / 2]),sv n] false)=some (vi (zE s[(i+j) / 2].1 n)):=by
   rw [qD hp,JD,jsc];rfl
  have ix:=ja (k:=3) (f:=bc) hm;have hpw:=jhq.1 hs;rw [jzB];have hc:=juy s[(i+j) / 2].1 n;generalize hg:zE s[(i+j) / 2].1 n=c at *;generalize hme:(i+j) / 2=m at *;by_cases hneg:c < 0
  .have hs1:=hc.1 hneg;have h5:ck ((m:Int)+1)=some (vi ((m+1:Nat):Int)):=jZ (by omega) (by omega);have:=ih (m+1) j (by omega) (by omega) hj (λk hk hk2=>by
    by_cases e:k=m
    .subst e;exact hs1
    .exact jaZ (hpw k m hk hm (by omega)) hs1) h2
   obtain ⟨i',b,e1,e2⟩:=this;exact ⟨i',b,by simp only [jd,hlt,c0,c1,c2,c3,ix,Z4,cc,hneg,h5];exact e1,e2⟩
  .have hs1:yT s[m].1 n=false:=by
    cases h:yT s[m].1 n with
    | false=>rfl
    | true=>exact (hneg (hc.2 h)).elim
   have:=ih i m (by omega) (by omega) (by omega) h1 (λk hk hk2=>by
    by_cases e:k=m
    .subst e;exact hs1
    .cases h:yT s[k].1 n with
     | false=>rfl
     | true=>rw [jaZ (hpw m k hm hk (by omega)) h] at hs1;cases hs1)
   obtain ⟨i',b,e1,e2⟩:=this;exact ⟨i',b,by simp only [jd,hlt,c0,c1,c2,c3,ix,Z4,cc,hneg];exact e1,e2⟩
def outT (o:Option T):Option Out:=match o with|some t=>some (.tup [tm t,vb true],[])|none=>some (.tup [.agg [sv [],.sl 2 []],vb false],[])
theorem jvj (s:jz) (hs:jI s=true) (n:List UInt8):G 280 [sb s,sv n]=outT (look s n):=by
 have hl:=(j7 hs).1;obtain ⟨i,b,e1,e2,e3⟩:=jrZ s (by omega) (jof (j7 hs).2.1) n s.length 0 s.length (by omega) (jD _) (kH _) (λk _ h=>by omega) (λk h1 h2=>by omega);simp only [jP] at e1;have e4:G 314 [Zz s,sv n,.fn 315 []]=some (.tup [vi (i:Nat),vb b],[]):=by
  rw [jMI];simp only [jd,e1]
 rw [jMn,e2];cases b with
 | false=>
  have:(if h:i < s.length then (if false=true then some s[i].2 else none) else none)=(none:Option T):=by split<;>simp
  rw [this];simp only [jd,e4];rfl
 | true=>
  have hi:=e3 rfl;rw [dif_pos hi,jp rfl];simp only [jd,e4,ja hi,qo,Y0];rfl
theorem jlN (s:jz) (hs:jI s=true):∀t:T,Rx' t->Tz t->G 242 [sb s,tm t]=some (tm (sub s t),[]):=by
 refine T.ind λt ih hk ht=> ?_;have hz:=ht;unfold Tz at hz;rw [kQ] at hz;rw [jLU];by_cases ha:t.args = []
 .have e1:=jvj s hs t.name;have h0:kE (jQ t.args)=some (vi 0):=by rw [ha];rfl
  cases hl:look s t.name with
  | some r=>
   rw [hl] at e1;have e1:G 280 [sb s,sv t.name]=some (.tup [tm r,vb true],[]):=e1;have hv:ju t.name=true:=((j7 hs).2.2 _ (J8 hl)).1;have e2:=Jp r ((yO hs).2 _ (J8 hl)).2;have:sub s t=r:=by rw [KP hv,jct,hl];rfl
   rw [this];simp only [jd,h0,e1,e2]
  | none=>
   rw [hl] at e1;have e1:G 280 [sb s,sv t.name]=some (.tup [.agg [sv [],.sl 2 []],vb false],[]):=e1;have:sub s t = .mk t.name []:=by
    cases hv:ju t.name with
    | true=>rw [KP hv,jct,hl];rfl
    | false=>rw [JN hv,ha];rfl
   rw [this];simp only [jd,h0,e1];rfl
 .have hv:ju t.name=false:=by
   cases hv:ju t.name with
   | false=>rfl
   | true=>exact (ha (hk.va hv)).elim
  have hpos:0 < t.args.length:=by
   cases h:t.args with
   | nil=>exact (ha h).elim
   | cons _ _=>simp
  have h0:¬((t.args.length:Nat):Int)=0:=by omega
  rw [JN hv];generalize hus:t.args.map (sub s)=us at *;have hul:us.length=t.args.length:=by rw [<-hus,jM]
  have hm:=Jg (b:=40) (n:=t.args.length) (by omega) (by omega);have hz0:(0:Int) < ((t.args.length:Nat):Int):=by omega
  have step:∀i,(hi:i < t.args.length)->G 242 [sb s,tm t.args[i]]=some (tm (us[i]'(by omega)),[]):=λi hi=>by
   rw [ih t.args[i] (jo _) (hk.args _ (jo _)) (ht.args _ (jo _))];simp only [<-hus,jex]
  have stepR:∀i,(hi:i < t.args.length)->QI (part jw [sv [],.sl 2 []] us i).length (vi (i:Nat))=some i/\jd9 (part jw [sv [],.sl 2 []] us i) i=some [sv [],.sl 2 []]/\J6 (part jw [sv [],.sl 2 []] us i) i [sv (us[i]'(by omega)).name,jQ (us[i]'(by omega)).args]=part jw [sv [],.sl 2 []] us (i+1):=λi hi=>by
   have h4:=Y3 (f:=jw) (z:=[sv [],.sl 2 []]) (xs:=us) (i:=i) (by omega);rw [zn] at h4;refine ⟨yp (by rw [Js (by omega)];omega),Y2 (by omega),h4⟩
  have key:=(upto (P:=λi=>1<=i->jnJ (jQ t.args) (vi (t.args.length:Nat)) (vi (i:Nat)) (Zz s) (sv []) (sv t.name) [] (part jw [sv [],.sl 2 []] us i)=some (tm (.mk t.name us),[])) (n:=t.args.length) ?_ ?_ 1 hpos (kH _));rotate_left
  .intro _;rw [jy5,<-hul,Y1];simp only [jd];rfl
  .intro i hi ih' _;have hlt:(i:Int) < ((t.args.length:Nat):Int):=by omega
   have h5:=jm hi (by show t.args.length<=9223372036854775807;omega)
   have e2:=step i hi;obtain ⟨h2,h3,h4⟩:=stepR i hi;have ih':=ih' (by omega);rw [jy5];simp only [jd,hlt,ja hi,jf,e2,h2,h3,jiq,h4,h5,ih']
  have e2:=step 0 hpos;obtain ⟨h2,h3,h4⟩:=stepR 0 hpos;rw [<-Zj] at h2 h3 h4;simp only [jP,yc] at h2 h4 key;have ix:=ja (k:=2) (f:=jw) hpos;simp only [jP] at ix;have h5:ck (0+1)=some (vi ((1:Nat):Int)):=jZ (n:=0+1) (by omega) (by omega);have first:jsH (jQ t.args) (vi (t.args.length:Nat)) (vi 0) (Zz s) (sv []) (sv t.name) (qV us.length [sv [],.sl 2 []]) []=some (tm (.mk t.name us),[]):=by
   rw [jEz];simp only [jd,hz0,ix,jf,e2,h2,h3,jiq,h4,h5,key]
  rw [hul] at first
  simp only [jd,h0,hm,first]
theorem jEY (s:jz):∀t:T,Rx' t->nodes t<=nodes (sub s t)/\Qp t<=Qp (sub s t):=by
 refine T.ind λt ih hk=> ?_;cases hv:ju t.name with
 | true=>
  have ha:=hk.va hv;rw [jS t,ZZ t,ha];have:=qH (sub s t);have:=ZZ (sub s t);simp only [js,jab];omega
 | false=>
  have hL:∀us:List T,(∀u∈us,nodes u<=nodes (sub s u)/\Qp u<=Qp (sub s u))->js us<=js (us.map (sub s))/\jab us<=jab (us.map (sub s)):=by
   intro us;induction us with
   | nil=>intro _;exact ⟨kH _,kH _⟩
   | cons v vs ih2=>
    intro h;have h1:=h v (by simp);have h2:=ih2 λw hw=>h w (by simp [hw]);simp only [kV,js,jab];omega
  have:=hL t.args λu hu=>ih u hu (hk.args u hu);rw [jS t,ZZ t,jS (sub s t),ZZ (sub s t),jf7 hv];omega
def KA (t:T):Prop:=yH t=true\/(t.name = [61]/\t.args.length=2/\ ∀u∈t.args,yH u=true)
theorem KA.rx {t:T} (h:KA t):Rx' t:=h.elim Or.inl λh=>Or.inr ⟨h.1,h.2.2⟩
theorem KA.tz {t:T} (h:KA t) (hn:nodes t<=100000):Tz t:=by
 rcases h with h|h
 .have:=jgY t h;unfold Tz;omega
 .unfold Tz;rw [jS] at hn;rw [kQ,h.1,h.2.1];have:=juX h.2.2;simp only [yd,qM];omega
theorem KA.sub {s:jz} (hs:jI s=true) {t:T} (h:KA t):KA (sub s t):=by
 rcases h with h|h
 .exact Or.inl (jbY (Zq hs) t h)
 .have hvn:ju t.name=false:=by rw [h.1];decide
  right;rw [JN hvn];refine ⟨h.1,by show (t.args.map _).length=2;rw [jM,h.2.1],λu hu=> ?_⟩;obtain ⟨a,ha,rfl⟩:=yP.1 hu;exact jbY (Zq hs) a (h.2.2 a ha)
theorem KA.sub_tz {s:jz} (hs:jI s=true) {t:T} (h:KA t) (hn:nodes t<=3000):Tz (Go.Proofs.YtoaifmomhaneiaaGreatDoor.sub s t):=by
 have:=jmR (u:=s) (Z:=30) (by decide) (Yw hs) t;exact (h.sub hs).tz (by omega)
theorem jwH {s:jz} {t:T} (h:Rx' t) (hs:jG (sub s t)=true):jG t=true:=by
 have:=jEY s t h;simp only [jG,jy,kK] at hs ⊢;omega
theorem yE (s:jz) (hs:jI s=true) (t:T) (h:KA t) (hn:nodes t<=3000):G 196 [sb s,tm t]=outT (if jG (sub s t) then some (sub s t) else none):=by
 have ht:=h.tz (by omega);have hu:=h.sub_tz hs hn;have e1:=jlN s hs t h.rx ht;have e2:=jbF (sub s t) hu.wf hu;rw [jLk];cases hsm:jG (sub s t)<;>rw [hsm] at e2
 .rw [jq kx];simp only [jd,e1,e2];rfl
 .rw [jp rfl];simp only [jd,e1,e2];rfl
theorem qO (s:jz) (hs:jI s=true) (t:T) (h:KA t) (hn:nodes t<=3000):G 217 [sb s,tm t]=outT (if jG (sub s t) then some (sub s t) else none):=by
 have ht:=h.tz (by omega);have hu:=h.sub_tz hs hn;have e0:=jd3 s (yO hs);have e1:=jod ht h;have e2:=Ze s (yO hs).sz t ht;have e3:=jod hu (h.sub hs);rw [hs] at e0;rw [jLC];cases hsm:jG (sub s t)<;>rw [hsm] at e3
 .rw [jq kx];cases hs1:jG t<;>rw [hs1] at e1
  .simp only [jd,e0,e1];rfl
  .simp only [jd,e0,e1,e2,e3];rfl
 .rw [jp rfl];rw [jwH h.rx hsm] at e1;simp only [jd,e0,e1,e2,e3];rfl
abbrev LtB (p q:List UInt8 × T):Prop:=yT p.1 q.1=true
theorem jhZ (n:List UInt8) (t:T):∀s:jz,s.Pairwise LtB->(∀q∈s,q.1≠n)->(Y4 s n t).Pairwise LtB
 | [],_,_=>by unfold Y4;simp
 | p::s,h,hn=>by
  obtain ⟨h1,h2⟩:=qi.1 h;cases hc:yT p.1 n with
  | true=>
   have e:Y4 (p::s) n t=p::Y4 s n t:=by
    unfold Y4;rw [jpq (p:=λp:List UInt8 × T=>yT p.1 n) hc,jt6 (p:=λp:List UInt8 × T=>yT p.1 n) hc,Qn]
   rw [e];refine qi.2 ⟨λx hx=> ?_,jhZ n t s h2 λq hq=>hn q (by simp [hq])⟩;rcases jkr.1 hx with hx|hx
   .exact h1 x hx
   .rw [hx];exact hc
  | false=>
   have e:Y4 (p::s) n t=(n,t)::p::s:=by
    unfold Y4;rw [jsr (p:=λp:List UInt8 × T=>yT p.1 n) (by simp [hc]),jvt (p:=λp:List UInt8 × T=>yT p.1 n) (by simp [hc])];rfl
   have hlt:yT n p.1=true:=by
    have h3:=jpa n p.1;rw [hc] at h3;have h4:decide (n=p.1)=false:=kA λe=>hn p (by simp) e.symm;rw [h4,jb5] at h3;exact h3
   rw [e];refine qi.2 ⟨λx hx=> ?_,h⟩;rcases kW.1 hx with e|e
   .rw [e];exact hlt
   .exact jaZ hlt (h1 x e)
theorem jbK:∀(m s:jz),s.Pairwise LtB->(m.map Prod.fst).Nodup->(∀p∈m,∀q∈s,q.1≠p.1)->(m.foldl (λs p=>J5 s p.1 p.2) s).Pairwise LtB
 | [],s,h,_,_=>h
 | p::m,s,h,hn,hd=>by
  rw [kV,jho] at hn;rw [K6];by_cases he:p.2.name=p.1
  .have:J5 s p.1 p.2=s:=jp he;rw [this];exact jbK m s h hn.2 λq hq r hr=>hd q (by simp [hq]) r hr
  .have:J5 s p.1 p.2=Y4 s p.1 p.2:=jq he;rw [this];refine jbK m _ (jhZ p.1 p.2 s h (hd p (by simp))) hn.2 λq hq r hr=> ?_;rcases jkr.1 hr with hr|hr
   .exact hd q (by simp [hq]) r hr
   .rw [hr];intro e;exact hn.1 (yP.2 ⟨q,hq,e.symm⟩)
theorem jeW:∀(m s:jz),m.foldl (λs p=>J5 s p.1 p.2) s=(m.filter λp=> !decide (p.2.name=p.1)).foldl (λs p=>J5 s p.1 p.2) s
 | [],s=>rfl
 | p::m,s=>by
  rw [K6,List.filter_cons];by_cases he:p.2.name=p.1
  .rw [jq (by simp [he]),show J5 s p.1 p.2=s from jp he];exact jeW m s
  .rw [jp (by simp [he]),K6];exact jeW m _
theorem jpc {l s:jz} (hn:(l.map Prod.fst).Nodup) (hk:∀p∈l,p.2.name≠p.1) (hp:s.Perm l) (hs:s.Pairwise λa b=>¬zE b.1 a.1 < 0):s=JU l:=by
 have h1:=jbK l [] List.Pairwise.nil hn λp _ q h=>by cases h
 have h2:=(QJ l [] hk).2;refine jAi (R:=LtB) (λa h=>by unfold LtB at h;rw [jbT] at h;cases h) (λa b h h'=>by have:=jaZ h h';rw [jbT] at this;cases this) ?_ h1 λx=> ?_
 .have hne:s.Pairwise λa b=>a.1≠b.1:=by
   have:(s.map Prod.fst).Nodup:=(hp.map Prod.fst).nodup_iff.2 hn;rw [jt4] at this;exact List.pairwise_map.1 this
  refine (hs.and hne).imp λ{a b} h=> ?_;have h3:=jpa a.1 b.1;rw [kA h.2,jb5] at h3;show yT a.1 b.1=true;rw [h3];cases hc:yT b.1 a.1 with
  | false=>rfl
  | true=>exact (h.1 ((juy _ _).2 hc)).elim
 .rw [hp.mem_iff];have:=h2 x;simp only [jcv,false_or] at this;exact this.symm
def yi (o:Option jz):Option Out:=match o with|some s=>some (.tup [sb s,vb true],[])|none=>some (.tup [.agg [.sl 3 []],vb false],[])
theorem ju1 {n:Nat} (h:n<=1000000):jK n 56=true:=jwl (by omega)
theorem jzI (p q:List UInt8 × T):G 282 [.agg (bc p),.agg (bc q)]=some (vi (zE p.1 q.1),[]):=by
 have e:=jcV p.1 q.1;rw [jMo];simp only [jd,e]
def jl6 (l:jz):jz:=l.filter λp=> !decide (p.2.name=p.1)
theorem jhT {s:jz} (h:jI s=true):(s.map Prod.fst).Nodup:=by
 rw [jt4,List.pairwise_map];exact (jof (j7 h).2.1).imp λ{a b} h e=>by rw [e,jbT] at h;cases h
def QF (s u:jz):jz:=jl6 (s.map λq=>(q.1,sub u q.2))++u.filter λq=>(look s q.1).isNone
theorem juH {s u:jz} (hu:jI u=true):JU (QF s u)=zC s u:=by
 unfold zC QF;unfold JU;rw [List.foldl_append,List.foldl_append,jeW (s.map _)];rfl
theorem jjz {s u:jz} (hs:jI s=true) (hu:jI u=true):(QF s u).length<=24/\((QF s u).map Prod.fst).Nodup/\(∀p∈QF s u,p.2.name≠p.1)/\ ∀p∈QF s u,p.1.length<=1000000/\Tz p.2:=by
 obtain ⟨ls,_,vs⟩:=j7 hs;obtain ⟨lu,_,vu⟩:=j7 hu;have hs2:∀p∈jl6 (s.map λq=>(q.1,sub u q.2)),p.2.name≠p.1/\ ∃q∈s,p.1=q.1/\p.2=sub u q.2:=λp hp=>by
  obtain ⟨h1,h2⟩:=jla.1 hp;obtain ⟨q,hq,rfl⟩:=yP.1 h1;exact ⟨by simpa using h2,q,hq,rfl,rfl⟩
 refine ⟨?_,?_,λp hp=> ?_,λp hp=> ?_⟩
 .unfold QF jl6;have h1:=List.length_filter_le (λp:List UInt8 × T=> !decide (p.2.name=p.1)) (s.map λq=>(q.1,sub u q.2));have h2:=List.length_filter_le (λq:List UInt8 × T=>(look s q.1).isNone) u;rw [ym];rw [jM] at h1;omega
 .unfold QF;rw [zV];refine jk8.2 ⟨?_,?_,λa ha b hb=> ?_⟩
  .have:((jl6 (s.map λq=>(q.1,sub u q.2))).map Prod.fst).Sublist (s.map Prod.fst):=by
    have h:=(List.filter_sublist (p:=λp:List UInt8 × T=> !decide (p.2.name=p.1)) (l:=s.map λq=>(q.1,sub u q.2))).map Prod.fst;rw [qY] at h;exact h
   exact (jhT hs).sublist this
  .exact (jhT hu).sublist (List.filter_sublist.map Prod.fst)
  .obtain ⟨p,hp,rfl⟩:=yP.1 ha;obtain ⟨q,hq,rfl⟩:=yP.1 hb;obtain ⟨_,r,hr,e,_⟩:=hs2 p hp;have h3:=(jla.1 hq).2;rw [Option.isNone_iff_eq_none] at h3;intro e2;exact JJ.1 h3 r hr (by rw [<-e,e2])
 .rcases kM.1 hp with hp|hp
  .exact (hs2 p hp).1
  .exact (vu p (jla.1 hp).1).2.2
 .rcases kM.1 hp with hp|hp
  .obtain ⟨_,q,hq,e1,e2⟩:=hs2 p hp;rw [e1,e2];have h1:=(yO hs).2 q hq;exact ⟨h1.1,KA.sub_tz hu (Or.inl (Zq hs q hq)) (by have:=Yw hs q hq;omega)⟩
  .exact (yO hu).2 p (jla.1 hp).1
theorem juA {s u:jz} (hs:jI s=true) (hu:jI u=true):SzB (zC s u):=by
 obtain ⟨h1,h2,h3,h4⟩:=jjz hs hu;rw [<-juH hu];obtain ⟨f1,f2⟩:=QJ (QF s u) [] h3;refine ⟨by unfold JU;rw [f1];simp;omega,λq hq=> ?_⟩;have:=(f2 q).1 hq;simp only [jcv,false_or] at this;exact h4 q this
theorem QB (s u:jz) (hs:jI s=true) (hu:jI u=true):G 237 [sb s,sb u]=yi (if jI (zC s u) then some (zC s u) else none):=by
 obtain ⟨g1,g2,g3,g4⟩:=jjz hs hu;have ls:=(j7 hs).1;have lu:=(j7 hu).1;obtain ⟨so,p1,p2,p3⟩:=jqc ZD Prod.fst bc 3 282 rfl (QF s u) (by omega) λx _ y _=>jzI x y;have hso:=jpc g2 g3 p1 p2;rw [juH hu] at hso;subst hso;have e1:=jmZ (zC s u) (juA hs hu);have fin:jgx (Zz u) (vi (u.length:Nat)) (vi (u.length:Nat)) (Zz s) [] ((QF s u).map bc)=yi (if jI (zC s u) then some (zC s u) else none):=by
  have hC:jxb ((QF s u).map bc)=some (.top,[.sl 3 ((zC s u).map bc)]):=by rw [jEb];exact p3
  have r1:hR 3 (A.top,[.sl 3 ((zC s u).map bc)]) 0=some ((zC s u).map bc):=rfl;rw [jy4];cases hv:jI (zC s u)<;>rw [hv] at e1
  .rw [jq kx];have e1:(G 279 [sb (zC s u)]).bind (fin true)=some (vb false):=by rw [e1];rfl
   simp only [jd,hC,r1,e1];rfl
  .rw [jp rfl];have e1:(G 279 [sb (zC s u)]).bind (fin true)=some (vb true):=by rw [e1];rfl
   simp only [jd,hC,r1,e1];rfl
 have k1:=upto (P:=λi=>∀R:jz,R.length<=12+i->R++(u.drop i).filter (λq=>(look s q.1).isNone)=QF s u->jgx (Zz u) (vi (u.length:Nat)) (vi (i:Nat)) (Zz s) [] (R.map bc)=yi (if jI (zC s u) then some (zC s u) else none)) (n:=u.length) ?_ ?_ 0 (jD _);rotate_left
 .intro R _ hR;rw [j6,List.filter_nil,JD] at hR;rw [hR];exact fin
 .intro i hi ih R hRl hR;have hlt:(i:Int) < ((u.length:Nat):Int):=by omega
  have h5:ck ((i:Int)+1)=some (vi ((i+1:Nat):Int)):=jZ (by omega) (by omega);have e2:=jvj s hs u[i].1;rw [jh hi,List.filter_cons] at hR;rw [jy4];cases hl:look s u[i].1 with
  | some r=>
   rw [hl] at e2 hR;have e2:G 280 [sb s,sv u[i].1]=some (.tup [tm r,vb true],[]):=e2;rw [jq (by simp)] at hR;have:=ih R (by omega) hR;simp only [jd,hlt,ja hi,Z4,e2,h5,this]
  | none=>
   rw [hl] at e2 hR;have e2:G 280 [sb s,sv u[i].1]=some (.tup [.agg [sv [],.sl 2 []],vb false],[]):=e2;rw [jp (by simp)] at hR;have:=ih (R++[u[i]]) (by rw [ym];simp only [yd,qM];omega) (by rw [yf];exact hR);have e3:=Jp u[i].2 ((yO hu).2 _ (jo hi)).2;have hf:jK (R.length+1) 56=true:=ju1 (by omega);have ha:jU (R.map bc) [[sv u[i].1,sv u[i].2.name,jQ u[i].2.args]]=(R++[u[i]]).map bc:=by rw [zV];rfl
   simp only [jd,hlt,ja hi,Z4,e2,e3];generalize hB:zo _ _ _=B;have hB':B=some (.agg (bc u[i])):=by rw [<-hB];kernel_rfl
   rw [hB'];simp only [jd,hf,ha,h5,this]
 have k0:=upto (P:=λi=>∀R:jz,R.length<=i->R++(jl6 ((s.drop i).map λq=>(q.1,sub u q.2))++u.filter λq=>(look s q.1).isNone)=QF s u->ji4 (Zz s) (vi (s.length:Nat)) (vi (i:Nat)) (Zz s) (Zz u) [] (R.map bc)=yi (if jI (zC s u) then some (zC s u) else none)) (n:=s.length) ?_ ?_ 0 (jD _) [] (jD _) rfl
 .simp only [jP,ye] at k0;rw [jLS];simp only [jd,k0]
 .intro R hRl hR;have:=k1 R (by omega) (by rw [kg];rw [j6] at hR;exact hR);simp only [jP] at this;rw [jy3];simp only [jd,this]
 .intro i hi ih R hRl hR;have hlt:(i:Int) < ((s.length:Nat):Int):=by omega
  have h5:ck ((i:Int)+1)=some (vi ((i+1:Nat):Int)):=jZ (by omega) (by omega);have hm:=(yO hs).2 _ (jo hi);have e2:=jlN u hu s[i].2 (Or.inl (Zq hs _ (jo hi))) hm.2;rw [jh hi,kV,jl6,List.filter_cons] at hR;rw [jy3];by_cases he:(sub u s[i].2).name=s[i].1
  .rw [jq (by simp [he])] at hR;have:=ih R (by omega) hR;simp only [jd,hlt,ja hi,Z4,e2,he,h5,this]
  .rw [jp (by simp [he])] at hR;have:=ih (R++[(s[i].1,sub u s[i].2)]) (by rw [ym];simp only [yd,qM];omega) (by rw [yf];exact hR);have hf:jK (R.length+1) 56=true:=ju1 (by omega);have ha:jU (R.map bc) [[sv s[i].1,sv (sub u s[i].2).name,jQ (sub u s[i].2).args]]=(R++[(s[i].1,sub u s[i].2)]).map bc:=by rw [zV];rfl
   simp only [jd,hlt,ja hi,Z4,e2,he,hf,ha,h5,this]
theorem joF (s u:jz) (hs:jI s=true) (hu:jI u=true):G 293 [sb s,sb u]=some (sb (zC s u),[]):=by
 have ls:=(j7 hs).1;have lu:=(j7 hu).1;have r1:∀x:jz,hR 3 (A.top,[Zz x]) 0=some (x.map bc):=λx=>rfl;have k1:=upto (P:=λi=>∀R:jz,R.length<=12+i->(∀q∈R,Tz q.2)->jjb (vi (i:Nat)) (Zz s) (Zz u) [] (R.map bc)=some (sb (((u.drop i).filter λq=>(look s q.1).isNone).foldl (λs p=>J5 s p.1 p.2) R),[])) (n:=u.length) ?_ ?_ 0 (jD _);rotate_left
 .intro R _ _;rw [jzp,j6];simp only [jd];rfl
 .intro i hi ih R hR hz;have hlt:(i:Int) < ((u.length:Nat):Int):=by omega
  have h5:ck ((i:Int)+1)=some (vi ((i+1:Nat):Int)):=jZ (by omega) (by omega);have hm:=(yO hu).2 _ (jo hi);rw [jzp,jh hi,List.filter_cons];rcases jmc s (by omega) u[i].1 with ⟨h1,h2⟩|⟨k,hk,h1,h2⟩
  .have e3:=joY R (by omega) u[i].1 u[i].2 hm.2;have:=ih (J5 R u[i].1 u[i].2) (by have:=jfV R u[i].1 u[i].2;omega) λq hq=>(jkq hq).elim (hz q) λe=>by rw [e];exact hm.2
   rw [h1,jp (by simp),K6];simp only [jd,hlt,ja hi,qo,yu,Y0,h2,e3,r1,h5,this]
  .have:=ih R (by omega) hz;have hk0:¬((k:Nat):Int) < 0:=by omega
   rw [h1,jq (by simp)];simp only [jd,hlt,ja hi,qo,yu,h2,hk0,h5,this]
 have k0:=upto (P:=λi=>∀R:jz,R.length<=i->(∀q∈R,Tz q.2)->jnY (vi (i:Nat)) (Zz s) (Zz u) [] (R.map bc)=some (sb ((u.filter λq=>(look s q.1).isNone).foldl (λs p=>J5 s p.1 p.2) (((s.drop i).map λq=>(q.1,sub u q.2)).foldl (λs p=>J5 s p.1 p.2) R)),[])) (n:=s.length) ?_ ?_ 0 (jD _) [] (jD _) (λq h=>by cases h)
 .simp only [jP,ye,kg] at k0;rw [jMt];simp only [jd,k0];rw [<-List.foldl_append];rfl
 .intro R hR hz;have:=k1 R (by omega) hz;simp only [jP,kg] at this;rw [jzo,j6];simp only [jd,this];rfl
 .intro i hi ih R hR hz;have hlt:(i:Int) < ((s.length:Nat):Int):=by omega
  have h5:ck ((i:Int)+1)=some (vi ((i+1:Nat):Int)):=jZ (by omega) (by omega);have hm:=(yO hs).2 _ (jo hi);have ht:Tz (sub u s[i].2):=KA.sub_tz hu (Or.inl (Zq hs _ (jo hi))) (by have:=Yw hs _ (jo hi);omega);have e2:=Ze u (yO hu).sz s[i].2 hm.2;have e3:=joY R (by omega) s[i].1 (sub u s[i].2) ht;have:=ih (J5 R s[i].1 (sub u s[i].2)) (by have:=jfV R s[i].1 (sub u s[i].2);omega) λq hq=>(jkq hq).elim (hz q) λe=>by rw [e];exact ht
  rw [jzo,jh hi,kV,K6];simp only [jd,hlt,ja hi,qo,yu,Y0,e2,e3,r1,h5,this]
theorem jpZ (s u:jz) (hs:jI s=true) (hu:SzB u):G 262 [sb s,sb u]=yi (if jI u && jI (zC s u) then some (zC s u) else none):=by
 have e1:=jd3 s (yO hs);have e2:=jd3 u hu;rw [hs] at e1;rw [jL8];cases hv:jI u<;>rw [hv] at e2
 .rw [jH,jq kx];simp only [jd,e1,e2];rfl
 .have e3:=joF s u hs hv;have e4:=jd3 (zC s u) (juA hs hv);rw [jJ];cases hc:jI (zC s u)<;>rw [hc] at e4
  .rw [jq kx];simp only [jd,e1,e2,e3,e4];rfl
  .rw [jp rfl];simp only [jd,e1,e2,e3,e4];rfl
inductive Hgt (s:jz):Nat->JR->Prop
 | nil (r:Nat):Hgt s r []
 | blk (r τ δ:Nat) (b es:JR):9 * τ+(8 - δ) < r->τ<=s.length+1->δ<=8->b.length<=4->(τ=s.length+1-> ∀p∈b,sub s p.1=p.1/\sub s p.2=p.2/\Qp p.1<=δ/\Qp p.2<=δ)->Hgt s (9 * τ+(8 - δ)) es->Hgt s r (b++es)
theorem Hgt.len {s:jz} {r:Nat} {es:JR} (h:Hgt s r es):es.length<=4 * r:=by
 induction h with
 | nil r=>exact jD _
 | blk r τ δ b es h1 _ _ h4 _ _ ih=>rw [ym];omega
theorem Hgt.mono {s:jz} {r r':Nat} {es:JR} (h:Hgt s r es) (hr:r<=r'):Hgt s r' es:=by
 induction h with
 | nil=>exact Hgt.nil _
 | blk r τ δ b es h1 h2 h3 h4 h5 h6 _=>exact Hgt.blk r' τ δ b es (by omega) h2 h3 h4 h5 h6
theorem Hgt.grow {s s':jz} (hs:s.length < s'.length) {r:Nat} {es:JR} (h:Hgt s r es):Hgt s' r es:=by
 induction h with
 | nil r=>exact Hgt.nil _
 | blk r τ δ b es h1 h2 h3 h4 h5 _ ih=>exact Hgt.blk r τ δ b es h1 (by omega) h3 h4 (λh=>by omega) ih
theorem Hgt.pop {s:jz} {r:Nat} {es:JR} (h:Hgt s r es):∀ {p:T × T} {rest:JR},es=p::rest-> ∃τ δ,9 * τ+(8 - δ) < r/\τ<=s.length+1/\δ<=8/\(τ=s.length+1->sub s p.1=p.1/\sub s p.2=p.2/\Qp p.1<=δ/\Qp p.2<=δ)/\Hgt s (9 * τ+(8 - δ)+1) rest:=by
 induction h with
 | nil r=>intro p rest h;cases h
 | blk r τ δ b es h1 h2 h3 h4 h5 h6 ih=>
  intro p rest he;cases b with
  | nil=>
   obtain ⟨τ',δ',g1,g2⟩:=ih he;exact ⟨τ',δ',by omega,g2⟩
  | cons q b=>
   rw [Qn,ZS] at he;obtain ⟨rfl,rfl⟩:=he;rw [yd] at h4;exact ⟨τ,δ,h1,h2,h3,λh=>h5 h q (by simp),Hgt.blk _ τ δ b es (by omega) h2 h3 (by omega) (λh x hx=>h5 h x (by simp [hx])) h6⟩
theorem Yo {t:T} (h:KA t):t.args.length<=4:=by
 rcases h with h|h
 .cases hv:ju t.name with
  | true=>rw [JC h hv];simp
  | false=>
   rw [yW,hv,jq kx,jy,jy,kK] at h;exact h.2.1
 .omega
theorem zz {s:jz} {l r:T} {rest:JR} (h:ZY s ((l,r)::rest)) (hg:Hgt s 126 ((l,r)::rest)) {s':jz} {es:JR} (hst:y7 s l r rest=some (s',es)):Hgt s' 126 es:=by
 obtain ⟨τ,δ,g1,g2,g3,g4,g5⟩:=hg.pop rfl;have hrest:Hgt s 126 rest:=g5.mono (by omega);have hl:=(j7 h.1).1;obtain ⟨_,hor⟩:=zl h hst;by_cases hlen:s'.length=s.length+1
 .have hst':=hst;unfold y7 at hst;split at hst
  .cases hst
  split at hst
  .cases hst;omega
  split at hst
  .split at hst
   .cases hst
   .cases hst;exact hrest.grow (by omega)
  .split at hst
   .cases hst;omega
   .cases hst
 .have hs:s'=s:=hor.elim (λh=>h.1) λh=>(hlen h).elim;subst hs;obtain ⟨hv,hi,he⟩:=h;obtain ⟨el,er⟩:=he (l,r) (by simp);unfold y7 at hst;split at hst
  .cases hst
  rename_i hsm;split at hst
  .cases hst;exact hrest
  split at hst
  .rename_i hvar;split at hst
   .cases hst
   .rename_i hno;simp only [kY,Kz] at hst;rw [<-hst.2];exact hrest
  rename_i hnv;split at hst;rotate_left
  .cases hst
  simp only [kY,Kz,true_and] at hst;subst hst;have sm:∀t,¬jG t=false->Qp t<=8:=λt ht=>by
   have:jG t=true:=by cases h:jG t with|true=>rfl|false=>exact (ht h).elim
   simp only [jG,jy,kK] at this;exact this.2
  have d1:=sm (sub s' l) λh=>hsm (Or.inl h);have d2:=sm (sub s' r) λh=>hsm (Or.inr h);have v1:ju (sub s' l).name=false:=by
   cases h:ju (sub s' l).name with
   | false=>rfl
   | true=>exact absurd (Or.inl h) hnv
  have v2:ju (sub s' r).name=false:=by
   cases h:ju (sub s' r).name with
   | false=>rfl
   | true=>exact absurd (Or.inr h) hnv
  have xl:KA (sub s' l):=KA.sub hv el.1;have xr:KA (sub s' r):=KA.sub hv er.1;have arg:∀w:T,KA (sub s' w)->ju (sub s' w).name=false->IdS s'-> ∀u∈(sub s' w).args,sub s' u=u/\Qp u+1<=Qp (sub s' w):=λw xw vw hi u hu=>by
   refine ⟨jtW u (xw.elim (λh=>zM h u hu) λh=>h.2.2 u hu) λx hx=>jkY hi w (by rw [vsf vw,qy];exact ⟨u,hu,hx⟩),?_⟩
   have:=jp6 hu;rw [ZZ (sub s' w)];omega
  have p1:=ZZ (sub s' l);have p2:=ZZ (sub s' r);refine Hgt.blk 126 (s'.length+1) (max (Qp (sub s' l)) (Qp (sub s' r)) - 1) _ rest (by omega) (kH _) (by omega) ?_ (λ_ p hp=> ?_) (g5.mono ?_)
  .rw [yJ];have:=Yo xl;omega
  .have hm:=List.of_mem_zip (a:=p.1) (b:=p.2) hp;have q1:=arg l xl v1 hi p.1 hm.1;have q2:=arg r xr v2 hi p.2 hm.2;exact ⟨q1.1,q2.1,by omega,by omega⟩
  .by_cases hτ:τ=s'.length+1
   .obtain ⟨w1,w2,w3,w4⟩:=g4 hτ;have w3:Qp l<=δ:=w3;have w4:Qp r<=δ:=w4;have w1:Qp (sub s' l)=Qp l:=congrArg Qp w1;have w2:Qp (sub s' r)=Qp r:=congrArg Qp w2;omega
   .omega
theorem jFZ (a b:T):Hgt [] 126 [(a,b)]:=Hgt.blk 126 0 8 [(a,b)] [] (by omega) (by omega) (by omega) (by simp) (λh=>by simp at h) (Hgt.nil _)
theorem jij {n:Nat} (h:n<=100000):jK n 80=true:=by
 unfold jK;exact jW ⟨by omega,by omega⟩
theorem jcR {x y:T} (h:ju x.name=true\/ju y.name=true):ju (jx x y).1=true/\(((jx x y).1=y.name/\(jx x y).2=x)\/((jx x y).1=x.name/\(jx x y).2=y)):=by
 unfold jx;split
 .rename_i hc;refine ⟨?_,Or.inl ⟨rfl,rfl⟩⟩;rcases hc with hc|hc
  .rcases h with h|h
   .rw [hc] at h;cases h
   .exact h
  .exact hc.1
 .rename_i hc;refine ⟨?_,Or.inr ⟨rfl,rfl⟩⟩;rcases Bool.eq_false_or_eq_true (ju x.name) with h2|h2
  .exact h2
  .exact absurd (Or.inl h2) hc
theorem jv2 {p:List UInt8 × T} (hn:ju p.1=true):(!decide ((0:Int) < (cnt p.1 p.2:Nat)) && jI [p])=(!decide (p.1∈kT p.2) && jI [p]):=by
 cases hv:jI [p] with
 | false=>rw [yb,yb]
 | true=>
  have hk:yH p.2=true:=Zq hv p (by simp);have:=jAU hn p.2 hk;rw [ja8,ja8];congr 1;exact jhi.2 (by rw [this];omega)
theorem jzZ {p:List UInt8 × T} (hn:ju p.1=true) (hz:Tz p.2):SzB [p]:=⟨by simp,λq hq=>by
 rw [kG.1 hq];exact ⟨by have:=jgb hn;omega,hz⟩⟩
theorem Yi (x y:T) (hx:KA x) (hy:KA y) (nx:nodes x<=3000) (ny:nodes y<=3000) (h:ju x.name=true\/ju y.name=true):G 236 [.agg [sv x.name,jQ x.args,sv y.name,jQ y.args]]=some (.tup [sb [jx x y],vb (!decide ((jx x y).1∈kT (jx x y).2) && jI [jx x y])],[]):=by
 have e1:=yM x (hx.imp id λh=>h.1);have e2:=yM y (hy.imp id λh=>h.1);obtain ⟨hv,hor⟩:=jcR h;have hz:Tz (jx x y).2:=by
  rcases hor with h|h
  .rw [h.2];exact hx.tz (by omega)
  .rw [h.2];exact hy.tz (by omega)
 have hn:nodes (jx x y).2<=3000:=by
  rcases hor with h|h
  .rw [h.2];exact nx
  .rw [h.2];exact ny
 have e3:=KI (jx x y).1 (jx x y).2 hz.wf (by omega);have e4:G 278 [sv (jx x y).1,tm (jx x y).2]=some (vb (decide ((0:Int) < (cnt (jx x y).1 (jx x y).2:Nat))),[]):=by
  rw [jMl];simp only [jd,e3]
 have e5:=jmZ [jx x y] (jzZ hv hz);have e5:G 279 [.agg [.sl 3 [[sv (jx x y).1,sv (jx x y).2.name,jQ (jx x y).2.args]]]]=some (vb (jI [jx x y]),[]):=e5;rw [<-jv2 hv,jLR];generalize hb:jI [jx x y]=vv at *;generalize ho:decide ((0:Int) < (cnt (jx x y).1 (jx x y).2:Nat))=oo at *;have hsb:sb [jx x y] = .agg [.sl 3 [[sv (jx x y).1,sv (jx x y).2.name,jQ (jx x y).2.args]]]:=rfl;rw [hsb];have e5:(G 279 [.agg [.sl 3 [[sv (jx x y).1,sv (jx x y).2.name,jQ (jx x y).2.args]]]]).bind (fin true)=some (vb vv):=by rw [e5];rfl
 cases hx1:ju x.name<;>rw [hx1] at e1
 .have hbd:jx x y=(y.name,x):=jp (Or.inl hx1);rw [hbd] at e4 e5 ⊢;have e4:G 278 [sv y.name,tm x]=some (vb oo,[]):=e4;have e5:(G 279 [.agg [.sl 3 [[sv y.name,sv x.name,jQ x.args]]]]).bind (fin true)=some (vb vv):=e5;cases oo
  .simp only [jd,e1,e4,e5,jJ]
  .simp only [jd,e1,e4,jH]
 .cases hy1:ju y.name<;>rw [hy1] at e2
  .have hbd:jx x y=(x.name,y):=jq (by rw [hx1,hy1];simp)
   rw [hbd] at e4 e5 ⊢;have e4:G 278 [sv x.name,tm y]=some (vb oo,[]):=e4;have e5:(G 279 [.agg [.sl 3 [[sv x.name,sv y.name,jQ y.args]]]]).bind (fin true)=some (vb vv):=e5;cases oo
   .simp only [jd,e1,e2,e4,e5,jJ]
   .simp only [jd,e1,e2,e4,jH]
  .have e6:=jg1 false y.name x.name;cases hc:yT x.name y.name<;>rw [hc] at e6
   .have hbd:jx x y=(x.name,y):=jq (by rw [hx1,hy1,hc];simp)
    rw [hbd] at e4 e5 ⊢;have e4:G 278 [sv x.name,tm y]=some (vb oo,[]):=e4;have e5:(G 279 [.agg [.sl 3 [[sv x.name,sv y.name,jQ y.args]]]]).bind (fin true)=some (vb vv):=e5;cases oo
    .simp only [jd,e1,e2,e6,e4,e5,jJ]
    .simp only [jd,e1,e2,e6,e4,jH]
   .have hbd:jx x y=(y.name,x):=jp (Or.inr ⟨hy1,hc⟩);rw [hbd] at e4 e5 ⊢;have e4:G 278 [sv y.name,tm x]=some (vb oo,[]):=e4;have e5:(G 279 [.agg [.sl 3 [[sv y.name,sv x.name,jQ x.args]]]]).bind (fin true)=some (vb vv):=e5;cases oo
    .simp only [jd,e1,e2,e6,e4,e5,jJ]
    .simp only [jd,e1,e2,e6,e4,jH]
theorem jdR (s:jz) (hs:jI s=true) (n:List UInt8) (t:T) (hn:ju n=true) (ht:Tz t) (hk:n∈kT t\/t.name≠n):∃z:jz,G 218 [sb s,sv n,tm t]=some (if !decide (n∈kT t) && (jI [(n,t)] && jI (zC s [(n,t)])) then .tup [sb (zC s [(n,t)]),vb true] else .tup [sb z,vb false],[]):=by
 obtain ⟨r,e1,hr,hl⟩:=jmb t ht.wf (by have:=qG t;have:=ht;unfold Tz at this;omega)
 have e2:=joD r n hl;have hc:r.contains n=decide (n∈kT t):=by
  cases h:r.contains n with
  | true=>rw [jhp,hr] at h;exact (jW h).symm
  | false=>
   refine (kA λh2=> ?_).symm;rw [<-hr,<-jhp,h] at h2;cases h2
 rw [hc] at e2;rw [jLD];by_cases hm:n∈kT t
 .refine ⟨s,?_⟩;rw [jW hm] at e2;rw [jW hm,jan,jH,jq kx];simp only [jd,e1,e2]
 .refine ⟨[],?_⟩;have hne:¬t.name=n:=hk.resolve_left hm;rw [kA hm] at e2;rw [kA hm,jli,jJ];have e3:jsC (sv n) (sv t.name) (jQ t.args) []=some (.top,[.sl 3 [[sv n,sv t.name,jQ t.args]]]):=by
   have k1:pB (z6 []) (zG [] 0) (some (vi 0))=some 0:=rfl;have k2:pB (z6 []) (zG [] 0) none=some 0:=rfl;have k3:pB 0 0 (some (vi 0))=some 0:=rfl;have k4:zj [] 0 (j5 0 0) = []:=rfl;have k5:jU (jU [] [[sv n,sv t.name,jQ t.args]]) [] = [[sv n,sv t.name,jQ t.args]]:=rfl;have f0:jK 0 56=true:=ju1 (by omega);have f1:jK 1 56=true:=ju1 (by omega);have f2:(jU [] [[sv n,sv t.name,jQ t.args]]).length=1:=rfl;have eo:=jdh t ht;have h00:¬((0:Int) < ((0:Nat):Int)):=by omega
   rw [jDY];simp only [jd,hne];rw [jzi];simp only [jd,h00,k1,k2,k3,k4,f0,f1,eo];generalize hB:zo _ _ _=B;have hB':B=some (.agg [sv n,sv t.name,jQ t.args]):=by rw [<-hB];kernel_rfl
   rw [hB'];simp only [jd,f1,k5,f2,kC]
  have e4:=jpZ s [(n,t)] hs (jzZ hn ht);have r1:hR 3 (A.top,[.sl 3 [[sv n,sv t.name,jQ t.args]]]) 0=some [[sv n,sv t.name,jQ t.args]]:=rfl;have e4:G 262 [sb s,.agg [.sl 3 [[sv n,sv t.name,jQ t.args]]]]=_:=e4;cases hb:jI [(n,t)] && jI (zC s [(n,t)])
  .rw [hb,jq kx] at e4;have e4:G 262 [sb s,.agg [.sl 3 [[sv n,sv t.name,jQ t.args]]]]=some (.tup [.agg [.sl 3 []],vb false],[]):=e4;rw [jq kx];simp only [jd,e1,e2,e3,r1,e4];rfl
  .rw [hb,jp rfl] at e4;have e4:G 262 [sb s,.agg [.sl 3 [[sv n,sv t.name,jQ t.args]]]]=some (.tup [sb (zC s [(n,t)]),vb true],[]):=e4;rw [jp rfl];simp only [jd,e1,e2,e3,r1,e4]
abbrev ec (p:T × T):List A:=[sv p.1.name,jQ p.1.args,sv p.2.name,jQ p.2.args]
theorem jdq {W:JR} {i:Nat} {p:T × T} (h:W[i]? = some p):K2 (W.map ec) i 0 2=some (tm p.1)/\K2 (W.map ec) i 2 2=some (tm p.2):=by
 unfold K2;rw [qu,h];exact ⟨rfl,rfl⟩
theorem Kt {W rest:JR} {p:T × T} {off:Nat} (h:W.drop off=p::rest):W[off]? = some p/\W.drop (off+1)=rest/\W.length=off+rest.length+1:=by
 have h1:=congrArg (λl=>l[0]?) h;simp only [jet,kC,qa] at h1;have h2:=congrArg (List.drop 1) h;rw [jlf] at h2;have h3:=congrArg List.length h;rw [qR,yd] at h3;exact ⟨h1,h2,by omega⟩
theorem jgd {us vs:List T} {i:Nat} (h1:i < us.length) (h2:i < vs.length):jU (((us.zip vs).take i).map ec) [[sv us[i].name,jQ us[i].args,sv vs[i].name,jQ vs[i].args]]=((us.zip vs).take (i+1)).map ec:=by
 have hl:i < (us.zip vs).length:=by rw [yJ];omega
 rw [jcf,kh hl,zV,List.getElem_zip];rfl
theorem jdC {W:JR} (off:Nat):zj (W.map ec) off (W.length - off)=(W.drop off).map ec:=by
 rw [jfW,<-jgi,qf (by rw [jM,qR];omega)]
theorem Kx {s:jz} {l r:T} {rest:JR} (h1:jG (sub s l)=true) (h2:jG (sub s r)=true) (h3:dq (sub s l) (sub s r)=true):y7 s l r rest=some (s,rest):=by
 unfold y7;rw [jq (by rw [h1,h2];simp),jp h3]
theorem Kv {s:jz} {l r:T} {rest:JR} (h1:jG (sub s l)=true) (h2:jG (sub s r)=true) (h3:dq (sub s l) (sub s r)=false) (h4:ju (sub s l).name=true\/ju (sub s r).name=true):y7 s l r rest=if (!decide ((jx (sub s l) (sub s r)).1∈kT (jx (sub s l) (sub s r)).2) && jI [jx (sub s l) (sub s r)]) && jI (zC s [jx (sub s l) (sub s r)]) then some (zC s [jx (sub s l) (sub s r)],rest) else none:=by
 unfold y7;rw [jq (by rw [h1,h2];simp),jq (by rw [h3];simp),jp h4];generalize jx (sub s l) (sub s r)=p;by_cases c1:p.1∈kT p.2
 .rw [jp (Or.inl c1),jW c1];rfl
 .rw [kA c1];cases c2:jI [p]
  .rw [jp (Or.inr (Or.inl rfl))];rfl
  .cases c3:jI (zC s [p])
   .rw [jp (Or.inr (Or.inr rfl))];rfl
   .rw [jq (by simp [c1])];rfl
theorem Kw {s:jz} {l r:T} {rest:JR} (h1:jG (sub s l)=true) (h2:jG (sub s r)=true) (h3:dq (sub s l) (sub s r)=false) (h4:ju (sub s l).name=false) (h5:ju (sub s r).name=false):y7 s l r rest=if (sub s l).name=(sub s r).name/\(sub s l).args.length=(sub s r).args.length then some (s,(sub s l).args.zip (sub s r).args++rest) else none:=by
 unfold y7;rw [jq (by rw [h1,h2];simp),jq (by rw [h3];simp),jq (by rw [h4,h5];simp)]
theorem jL {k:Nat} {s:jz} {l r:T} {rest:JR} {res:Option jz} (hst:y7 s l r rest=none) (h:zZ (k+1) s ((l,r)::rest)=some res):res=none:=by
 rw [zZ,hst] at h;exact (Yx h).symm
theorem kO {k:Nat} {s:jz} {l r:T} {rest:JR} {res:Option jz} {q:jz × JR} (hst:y7 s l r rest=some q) (h:zZ (k+1) s ((l,r)::rest)=some res):zZ k q.1 q.2=some res:=by
 rw [zZ,hst] at h;exact h
theorem JB {s:jz} {l r:T} {rest:JR} (h:ZY s ((l,r)::rest)):KA l/\KA r/\nodes l<=31/\nodes r<=31:=by
 obtain ⟨h1,h2⟩:=h.2.2 (l,r) (by simp);exact ⟨h1.1,h2.1,h1.2,h2.2⟩
theorem jx6 (s:jz) (W:JR) (off:Nat) (hW:W.length<=1000) (x y:T) (hl:x.args.length=y.args.length) (h4:x.args.length<=4) :
  jns (nA off) (nA (W.length - off)) (jQ x.args) (vi (x.args.length:Nat)) (vi 0) (Zz s) (sv y.name) (jQ y.args) (W.map ec) [] []=jez (Zz s) ((x.args.zip y.args++W.drop off).map ec) []:=by
 have h1:zt (nA off)=off:=rfl;have h2:zt (nA (W.length - off))=W.length - off:=rfl;have hend:jK (((x.args.zip y.args).map ec).length+((W.drop off).map ec).length) 80=true:=by
  rw [jM,jM,yJ,qR];exact jij (by omega)
 have hzl:((x.args.zip y.args).map ec).length=x.args.length:=by rw [jM,yJ];omega
 have happ:jU ((x.args.zip y.args).map ec) ((W.drop off).map ec)=(x.args.zip y.args++W.drop off).map ec:=by rw [zV];rfl
 have step:∀i,(hi:i < x.args.length)->(hi2:i < y.args.length)->jU (((x.args.zip y.args).take i).map ec) [[sv x.args[i].name,jQ x.args[i].args,sv y.args[i].name,jQ y.args[i].args]]=((x.args.zip y.args).take (i+1)).map ec:=λi hi hi2=>jgd hi hi2;have key:=upto (P:=λi=>jnu (nA off) (nA (W.length - off)) (jQ x.args) (vi (x.args.length:Nat)) (vi (i:Nat)) (Zz s) (sv y.name) (jQ y.args) (W.map ec) (((x.args.zip y.args).take i).map ec) []=jez (Zz s) ((x.args.zip y.args++W.drop off).map ec) []) (n:=x.args.length) ?_ ?_
 .have hend2:(x.args.zip y.args).take x.args.length=x.args.zip y.args:=qf (by rw [yJ];omega)
  rw [jEx];by_cases h0:0 < x.args.length
  .have hi:=h0;have hi2:0 < y.args.length:=by omega
   have hlt:(0:Int) < ((x.args.length:Nat):Int):=by omega
   have ix:=ja (k:=2) (f:=jw) hi;have ix2:=ja (k:=2) (f:=jw) hi2;have ta:=step 0 hi hi2;simp only [Jm,ye,jP,yc] at ta ix ix2;have hf:jK 1 80=true:=jij (by omega);have hck:ck (0+1)=some (vi ((1:Nat):Int)):=jZ (n:=0+1) (by omega) (by omega);have key:=key 1 (by omega);rw [<-key];simp only [jd,hlt,ix,ix2,jf,hf,ta,hck,h1,h2]
  .have hlt:¬(0:Int) < ((x.args.length:Nat):Int):=by omega
   have he:x.args = []:=jb1 (by omega);have hz:x.args.zip y.args = []:=by rw [he];rfl
   rw [hz] at hend happ ⊢;have hend:jK ((W.drop off).map ec).length 80=true:=by simpa using hend
   have happ:jU [] ((W.drop off).map ec)=(W.drop off).map ec:=rfl;simp only [jd,hlt,h1,h2,jdC,qQ];rw [jM] at hend;simp only [jd,hend,happ]
 .have hend2:(x.args.zip y.args).take x.args.length=x.args.zip y.args:=qf (by rw [yJ];omega)
  rw [hend2,jyK];have hlt:¬((x.args.length:Nat):Int) < ((x.args.length:Nat):Int):=by omega
  rw [hzl,jM] at hend;simp only [jd,hlt,h1,h2,jdC,happ];rw [yJ,jgl (by omega)];simp only [jd,hend]
 .intro i hi ih;have hi2:i < y.args.length:=by omega
  have hlt:((i:Nat):Int) < ((x.args.length:Nat):Int):=by omega
  have ta:=step i hi hi2;have li:(((x.args.zip y.args).take i).map ec).length=i:=take_len (by rw [yJ];omega);have hf:jK (i+1) 80=true:=jij (by omega);have hck:ck ((i:Int)+1)=some (vi ((i+1:Nat):Int)):=jZ (by omega) (by omega);generalize ((x.args.zip y.args).take i).map ec=R at *;rw [jyK,<-ih];simp only [jd,hlt,ja hi,ja hi2,jf,li,hf,ta,hck,h1,h2]
theorem jx5 (W:JR) (off:Nat) (hW:W.length<=1000) (x y:T) (hl:x.args.length=y.args.length) (h4:x.args.length<=4) :
  jiY (nA off) (nA (W.length - off)) (jQ x.args) (vi (x.args.length:Nat)) (vi 0) (sv y.name) (jQ y.args) (W.map ec) [] [] []=jcF ((x.args.zip y.args++W.drop off).map ec) [] []:=by
 have h1:zt (nA off)=off:=rfl;have h2:zt (nA (W.length - off))=W.length - off:=rfl;have hend:jK (((x.args.zip y.args).map ec).length+((W.drop off).map ec).length) 80=true:=by
  rw [jM,jM,yJ,qR];exact jij (by omega)
 have hzl:((x.args.zip y.args).map ec).length=x.args.length:=by rw [jM,yJ];omega
 have happ:jU ((x.args.zip y.args).map ec) ((W.drop off).map ec)=(x.args.zip y.args++W.drop off).map ec:=by rw [zV];rfl
 have step:∀i,(hi:i < x.args.length)->(hi2:i < y.args.length)->jU (((x.args.zip y.args).take i).map ec) [[sv x.args[i].name,jQ x.args[i].args,sv y.args[i].name,jQ y.args[i].args]]=((x.args.zip y.args).take (i+1)).map ec:=λi hi hi2=>jgd hi hi2;have key:=upto (P:=λi=>jnt (nA off) (nA (W.length - off)) (jQ x.args) (vi (x.args.length:Nat)) (vi (i:Nat)) (sv y.name) (jQ y.args) (W.map ec) (((x.args.zip y.args).take i).map ec) [] []=jcF ((x.args.zip y.args++W.drop off).map ec) [] []) (n:=x.args.length) ?_ ?_
 .have hend2:(x.args.zip y.args).take x.args.length=x.args.zip y.args:=qf (by rw [yJ];omega)
  rw [jEw];by_cases h0:0 < x.args.length
  .have hi:=h0;have hi2:0 < y.args.length:=by omega
   have hlt:(0:Int) < ((x.args.length:Nat):Int):=by omega
   have ix:=ja (k:=2) (f:=jw) hi;have ix2:=ja (k:=2) (f:=jw) hi2;have ta:=step 0 hi hi2;simp only [Jm,ye,jP,yc] at ta ix ix2;have hf:jK 1 80=true:=jij (by omega);have hck:ck (0+1)=some (vi ((1:Nat):Int)):=jZ (n:=0+1) (by omega) (by omega);have key:=key 1 (by omega);rw [<-key];simp only [jd,hlt,ix,ix2,jf,hf,ta,hck,h1,h2]
  .have hlt:¬(0:Int) < ((x.args.length:Nat):Int):=by omega
   have he:x.args = []:=jb1 (by omega);have hz:x.args.zip y.args = []:=by rw [he];rfl
   rw [hz] at hend happ ⊢;have hend:jK ((W.drop off).map ec).length 80=true:=by simpa using hend
   have happ:jU [] ((W.drop off).map ec)=(W.drop off).map ec:=rfl;simp only [jd,hlt,h1,h2,jdC,qQ];rw [jM] at hend;simp only [jd,hend,happ]
 .have hend2:(x.args.zip y.args).take x.args.length=x.args.zip y.args:=qf (by rw [yJ];omega)
  rw [hend2,jyJ];have hlt:¬((x.args.length:Nat):Int) < ((x.args.length:Nat):Int):=by omega
  rw [hzl,jM] at hend;simp only [jd,hlt,h1,h2,jdC,happ];rw [yJ,jgl (by omega)];simp only [jd,hend]
 .intro i hi ih;have hi2:i < y.args.length:=by omega
  have hlt:((i:Nat):Int) < ((x.args.length:Nat):Int):=by omega
  have ta:=step i hi hi2;have li:(((x.args.zip y.args).take i).map ec).length=i:=take_len (by rw [yJ];omega);have hf:jK (i+1) 80=true:=jij (by omega);have hck:ck ((i:Int)+1)=some (vi ((i+1:Nat):Int)):=jZ (by omega) (by omega);generalize ((x.args.zip y.args).take i).map ec=R at *;rw [jyJ,<-ih];simp only [jd,hlt,ja hi,ja hi2,jf,li,hf,ta,hck,h1,h2]
def US (s:jz) (es:JR) (o:Option Out):Prop:=
 (∀(W:JR) (off:Nat),W.drop off=es->off<=W.length->W.length<=1000->KF (nA off) (nA (W.length - off)) (Zz s) (W.map ec) []=o)/\jez (Zz s) (es.map ec) []=o/\
 (s = []->(∀(W:JR) (off:Nat),W.drop off=es->off<=W.length->W.length<=1000->jgv (nA off) (nA (W.length - off)) (W.map ec) [] []=o)/\jcF (es.map ec) [] []=o)
theorem un2 (k:Nat) (ih:∀(s:jz) (es:JR) (res:Option jz),ZY s es->Hgt s 126 es->zZ k s es=some res->US s es (yi res)) (s:jz) (l r:T) (rest:JR) (hi:ZY s ((l,r)::rest)) (hg:Hgt s 126 ((l,r)::rest)) (res:Option jz) (hu:zZ (k+1) s ((l,r)::rest)=some res) (W:JR) (off:Nat) (hW:W.drop off=(l,r)::rest) (hlen:W.length<=1000):KF (nA off) (nA (W.length - off)) (Zz s) (W.map ec) []=yi res:=by
 obtain ⟨d1,d2,d3⟩:=Kt hW;obtain ⟨r1,r2⟩:=jdq d1;obtain ⟨al,ar,nl,nr⟩:=JB hi;have hv:=hi.1;have e1:=yE s hv l al (by omega);have e2:=yE s hv r ar (by omega);have w1:zt (nA off)=off:=rfl;have w2:zt (nA (W.length - off))=W.length - off:=rfl;have g1:jr .gtr false (nA (W.length - off)) (vi 0)=some (vb true):=by
  show some (vb (decide ((0:Int) < ((W.length - off:Nat):Int))))=_;rw [jW (by omega)]
 have g2:QI (W.length - off) (vi 0)=some 0:=yp (i:=0) (by omega);have g3:pB (W.length - off) (zG (W.map ec) off) none=some (W.length - off):=by
  rw [show zG (W.map ec) off=W.length - off by rw [qU,jM]];exact yj (kH _)
 have g4:pB 0 (W.length - off) (some (vi 1))=some 1:=Jj (n:=1) (by omega);have hn:j5 (W.length - off) 1=W.length - (off+1):=by unfold j5;omega
 rw [jyI];cases sl:jG (sub s l)<;>rw [sl] at e1
 .have e1:G 196 [sb s,tm l]=some (.tup [.agg [sv [],.sl 2 []],vb false],[]):=e1;have hr:res=none:=jL (by unfold y7;rw [jp (Or.inl sl)]) hu;subst hr;obtain ⟨q,e2⟩:∃q:T × Bool,G 196 [sb s,tm r]=some (.tup [tm q.1,vb q.2],[]):=by
   cases h:jG (sub s r)<;>rw [h] at e2
   .exact ⟨(.mk [] [],false),e2⟩
   .exact ⟨(sub s r,true),e2⟩
  simp only [jd,w1,w2,g1,g2,g3,g4,kC,r1,r2,e1,e2];rfl
 have e1:G 196 [sb s,tm l]=some (.tup [tm (sub s l),vb true],[]):=e1;cases sr:jG (sub s r)<;>rw [sr] at e2
 .have e2:G 196 [sb s,tm r]=some (.tup [.agg [sv [],.sl 2 []],vb false],[]):=e2;have hr:res=none:=jL (by unfold y7;rw [jp (Or.inr sr)]) hu;subst hr;simp only [jd,w1,w2,g1,g2,g3,g4,kC,r1,r2,e1,e2];rfl
 have e2:G 196 [sb s,tm r]=some (.tup [tm (sub s r),vb true],[]):=e2;have xl:KA (sub s l):=KA.sub hv al;have xr:KA (sub s r):=KA.sub hv ar;have ml:=kP sl;have mr:=kP sr;have tl:=xl.tz (by omega);have tr:=xr.tz (by omega);have e3:=zQ (sub s l) tl.wf (sub s r) tr.wf;have ll:=(j7 hv).1;cases hd:dq (sub s l) (sub s r)<;>rw [hd] at e3
 rotate_left
 .have hst:=Kx (rest:=rest) sl sr hd;have hnext:=ih _ _ res (zl hi hst).1 (zz hi hg hst) (kO hst hu);have hnext:=hnext.1 W (off+1) d2 (by omega) hlen;simp only [jd,w1,w2,g1,g2,g3,g4,kC,r1,r2,e1,e2,e3,hn];exact hnext
 have v1:=yM (sub s l) (xl.imp id λh=>h.1);have v2:=yM (sub s r) (xr.imp id λh=>h.1);have bindC:ju (sub s l).name=true\/ju (sub s r).name=true->(∃q:Bool,G 236 [.agg [sv (sub s l).name,jQ (sub s l).args,sv (sub s r).name,jQ (sub s r).args]]=some (.tup [sb [jx (sub s l) (sub s r)],vb q],[])/\(q=false->yi res=yi none)/\(q=true-> ∃q2:Bool,∃u:jz,G 237 [sb s,sb [jx (sub s l) (sub s r)]]=some (.tup [sb u,vb q2],[])/\(q2=false->yi res=yi none)/\(q2=true->KF (nA (off+1)) (nA (W.length - (off+1))) (Zz u) (W.map ec) []=yi res))):=by
  intro hvar;have hst:=Kv (rest:=rest) sl sr hd hvar;refine ⟨_,Yi _ _ xl xr (by omega) (by omega) hvar,λhq=> ?_,λhq=> ?_⟩
  .rw [hq,jH,jq kx] at hst;rw [jL hst hu]
  .rw [hq,jJ] at hst;have hvp:jI [jx (sub s l) (sub s r)]=true:=by
    rw [jy] at hq;exact hq.2
   have ec1:=QB s [jx (sub s l) (sub s r)] hv hvp;cases hc:jI (zC s [jx (sub s l) (sub s r)])
   .rw [hc,jq kx] at hst ec1;exact ⟨false,[],ec1,λ_=>by rw [jL hst hu],λh=>by cases h⟩
   .rw [hc,jp rfl] at hst ec1;refine ⟨true,_,ec1,(λh=>by cases h),λ_=> ?_⟩;have hnext:=ih _ _ res (zl hi hst).1 (zz hi hg hst) (kO hst hu);exact hnext.1 W (off+1) d2 (by omega) hlen
 have close:ju (sub s l).name=true\/ju (sub s r).name=true->_:=bindC;clear bindC;cases vl:ju (sub s l).name<;>rw [vl] at v1
 rotate_left
 .obtain ⟨q,b1,b2,b3⟩:=close (Or.inl vl);cases q
  .rw [b2 rfl];simp only [jd,w1,w2,g1,g2,g3,g4,kC,r1,r2,e1,e2,e3,v1,v2,b1];rfl
  .obtain ⟨q2,u,b4,b5,b6⟩:=b3 rfl;cases q2
   .rw [b5 rfl];simp only [jd,w1,w2,g1,g2,g3,g4,kC,r1,r2,e1,e2,e3,v1,v2,b1,b4];rfl
   .rw [<-b6 rfl];simp only [jd,w1,w2,g1,g2,g3,g4,kC,r1,r2,e1,e2,e3,v1,v2,b1,b4,hn]
 cases vr:ju (sub s r).name<;>rw [vr] at v2
 rotate_left
 .obtain ⟨q,b1,b2,b3⟩:=close (Or.inr vr);cases q
  .rw [b2 rfl];simp only [jd,w1,w2,g1,g2,g3,g4,kC,r1,r2,e1,e2,e3,v1,v2,b1];rfl
  .obtain ⟨q2,u,b4,b5,b6⟩:=b3 rfl;cases q2
   .rw [b5 rfl];simp only [jd,w1,w2,g1,g2,g3,g4,kC,r1,r2,e1,e2,e3,v1,v2,b1,b4];rfl
   .rw [<-b6 rfl];simp only [jd,w1,w2,g1,g2,g3,g4,kC,r1,r2,e1,e2,e3,v1,v2,b1,b4,hn]
 have hst:=Kw (rest:=rest) sl sr hd vl vr;by_cases hnm:(sub s l).name=(sub s r).name;rotate_left
 .rw [jq (λh=>hnm h.1)] at hst;have hnd:=kA hnm;rw [jL hst hu];simp only [jd,w1,w2,g1,g2,g3,g4,kC,r1,r2,e1,e2,e3,v1,v2,hnd];rfl
 have hnd:=jW hnm;by_cases hal:(sub s l).args.length=(sub s r).args.length;rotate_left
 .rw [jq (λh=>hal h.2)] at hst;have hal':decide ((((sub s l).args.length:Nat):Int)=(((sub s r).args.length:Nat):Int))=false:=kA (by omega);rw [jL hst hu];simp only [jd,w1,w2,g1,g2,g3,g4,kC,r1,r2,e1,e2,e3,v1,v2,hnd,hal'];rfl
 rw [jp ⟨hnm,hal⟩] at hst;have hnext:=ih _ _ res (zl hi hst).1 (zz hi hg hst) (kO hst hu);have hnext:=hnext.2.1;have hin:=jx6 s W (off+1) hlen (sub s l) (sub s r) hal (Yo xl);rw [d2] at hin;rw [hnext] at hin;have hal':decide ((((sub s l).args.length:Nat):Int)=(((sub s r).args.length:Nat):Int))=true:=jW (by omega);simp only [jd,w1,w2,g1,g2,g3,g4,kC,r1,r2,e1,e2,e3,v1,v2,hnd,hal',hn];exact hin
theorem un8 (k:Nat) (ih:∀(s:jz) (es:JR) (res:Option jz),ZY s es->Hgt s 126 es->zZ k s es=some res->US s es (yi res)) (s:jz) (l r:T) (rest:JR) (hi:ZY s ((l,r)::rest)) (hg:Hgt s 126 ((l,r)::rest)) (res:Option jz) (hu:zZ (k+1) s ((l,r)::rest)=some res) (W:JR) (hW:W=(l,r)::rest) (hlen:W.length<=1000):jez (Zz s) (W.map ec) []=yi res:=by
 have hW0:W.drop 0=(l,r)::rest:=hW;obtain ⟨d1,d2,d3⟩:=Kt hW0;obtain ⟨r1,r2⟩:=jdq d1;obtain ⟨al,ar,nl,nr⟩:=JB hi;have hv:=hi.1;have e1:=yE s hv l al (by omega);have e2:=yE s hv r ar (by omega);have g1:jr .gtr false (yX (W.map ec)) (vi 0)=some (vb true):=by
  rw [Ys,jM,jdi,jW (by omega)]
 have g2:QI W.length (vi 0)=some 0:=yp (i:=0) (by omega);have g3:pB (z6 (W.map ec)) (zG (W.map ec) 0) none=some W.length:=by
  rw [qJ,show zG (W.map ec) 0=W.length by rw [qU,jM];rfl];exact yj (kH _)
 have g4:pB 0 W.length (some (vi 1))=some 1:=Jj (n:=1) (by omega);have g0:(0:Int) < ((W.length:Nat):Int):=by omega
 have hn:j5 (W.length) 1=W.length - (0+1):=by unfold j5;omega
 rw [jyL];cases sl:jG (sub s l)<;>rw [sl] at e1
 .have e1:G 196 [sb s,tm l]=some (.tup [.agg [sv [],.sl 2 []],vb false],[]):=e1;have hr:res=none:=jL (by unfold y7;rw [jp (Or.inl sl)]) hu;subst hr;obtain ⟨q,e2⟩:∃q:T × Bool,G 196 [sb s,tm r]=some (.tup [tm q.1,vb q.2],[]):=by
   cases h:jG (sub s r)<;>rw [h] at e2
   .exact ⟨(.mk [] [],false),e2⟩
   .exact ⟨(sub s r,true),e2⟩
  simp only [jd,g0,g2,g3,g4,r1,r2,e1,e2];rfl
 have e1:G 196 [sb s,tm l]=some (.tup [tm (sub s l),vb true],[]):=e1;cases sr:jG (sub s r)<;>rw [sr] at e2
 .have e2:G 196 [sb s,tm r]=some (.tup [.agg [sv [],.sl 2 []],vb false],[]):=e2;have hr:res=none:=jL (by unfold y7;rw [jp (Or.inr sr)]) hu;subst hr;simp only [jd,g0,g2,g3,g4,r1,r2,e1,e2];rfl
 have e2:G 196 [sb s,tm r]=some (.tup [tm (sub s r),vb true],[]):=e2;have xl:KA (sub s l):=KA.sub hv al;have xr:KA (sub s r):=KA.sub hv ar;have ml:=kP sl;have mr:=kP sr;have tl:=xl.tz (by omega);have tr:=xr.tz (by omega);have e3:=zQ (sub s l) tl.wf (sub s r) tr.wf;have ll:=(j7 hv).1;cases hd:dq (sub s l) (sub s r)<;>rw [hd] at e3
 rotate_left
 .have hst:=Kx (rest:=rest) sl sr hd;have hnext:=ih _ _ res (zl hi hst).1 (zz hi hg hst) (kO hst hu);have hnext:=hnext.1 W (0+1) d2 (by omega) hlen;simp only [jd,g0,g2,g3,g4,r1,r2,e1,e2,e3,hn];exact hnext
 have v1:=yM (sub s l) (xl.imp id λh=>h.1);have v2:=yM (sub s r) (xr.imp id λh=>h.1);have bindC:ju (sub s l).name=true\/ju (sub s r).name=true->(∃q:Bool,G 236 [.agg [sv (sub s l).name,jQ (sub s l).args,sv (sub s r).name,jQ (sub s r).args]]=some (.tup [sb [jx (sub s l) (sub s r)],vb q],[])/\(q=false->yi res=yi none)/\(q=true-> ∃q2:Bool,∃u:jz,G 237 [sb s,sb [jx (sub s l) (sub s r)]]=some (.tup [sb u,vb q2],[])/\(q2=false->yi res=yi none)/\(q2=true->KF (nA (0+1)) (nA (W.length - (0+1))) (Zz u) (W.map ec) []=yi res))):=by
  intro hvar;have hst:=Kv (rest:=rest) sl sr hd hvar;refine ⟨_,Yi _ _ xl xr (by omega) (by omega) hvar,λhq=> ?_,λhq=> ?_⟩
  .rw [hq,jH,jq kx] at hst;rw [jL hst hu]
  .rw [hq,jJ] at hst;have hvp:jI [jx (sub s l) (sub s r)]=true:=by
    rw [jy] at hq;exact hq.2
   have ec1:=QB s [jx (sub s l) (sub s r)] hv hvp;cases hc:jI (zC s [jx (sub s l) (sub s r)])
   .rw [hc,jq kx] at hst ec1;exact ⟨false,[],ec1,λ_=>by rw [jL hst hu],λh=>by cases h⟩
   .rw [hc,jp rfl] at hst ec1;refine ⟨true,_,ec1,(λh=>by cases h),λ_=> ?_⟩;have hnext:=ih _ _ res (zl hi hst).1 (zz hi hg hst) (kO hst hu);exact hnext.1 W (0+1) d2 (by omega) hlen
 have close:ju (sub s l).name=true\/ju (sub s r).name=true->_:=bindC;clear bindC;cases vl:ju (sub s l).name<;>rw [vl] at v1
 rotate_left
 .obtain ⟨q,b1,b2,b3⟩:=close (Or.inl vl);cases q
  .rw [b2 rfl];simp only [jd,g0,g2,g3,g4,r1,r2,e1,e2,e3,v1,v2,b1];rfl
  .obtain ⟨q2,u,b4,b5,b6⟩:=b3 rfl;cases q2
   .rw [b5 rfl];simp only [jd,g0,g2,g3,g4,r1,r2,e1,e2,e3,v1,v2,b1,b4];rfl
   .rw [<-b6 rfl];simp only [jd,g0,g2,g3,g4,r1,r2,e1,e2,e3,v1,v2,b1,b4,hn]
 cases vr:ju (sub s r).name<;>rw [vr] at v2
 rotate_left
 .obtain ⟨q,b1,b2,b3⟩:=close (Or.inr vr);cases q
  .rw [b2 rfl];simp only [jd,g0,g2,g3,g4,r1,r2,e1,e2,e3,v1,v2,b1];rfl
  .obtain ⟨q2,u,b4,b5,b6⟩:=b3 rfl;cases q2
   .rw [b5 rfl];simp only [jd,g0,g2,g3,g4,r1,r2,e1,e2,e3,v1,v2,b1,b4];rfl
   .rw [<-b6 rfl];simp only [jd,g0,g2,g3,g4,r1,r2,e1,e2,e3,v1,v2,b1,b4,hn]
 have hst:=Kw (rest:=rest) sl sr hd vl vr;by_cases hnm:(sub s l).name=(sub s r).name;rotate_left
 .rw [jq (λh=>hnm h.1)] at hst;have hnd:=kA hnm;rw [jL hst hu];simp only [jd,g0,g2,g3,g4,r1,r2,e1,e2,e3,v1,v2,hnd];rfl
 have hnd:=jW hnm;by_cases hal:(sub s l).args.length=(sub s r).args.length;rotate_left
 .rw [jq (λh=>hal h.2)] at hst;have hal':decide ((((sub s l).args.length:Nat):Int)=(((sub s r).args.length:Nat):Int))=false:=kA (by omega);rw [jL hst hu];simp only [jd,g0,g2,g3,g4,r1,r2,e1,e2,e3,v1,v2,hnd,hal'];rfl
 rw [jp ⟨hnm,hal⟩] at hst;have hnext:=ih _ _ res (zl hi hst).1 (zz hi hg hst) (kO hst hu);have hnext:=hnext.2.1;have hin:=jx6 s W (0+1) hlen (sub s l) (sub s r) hal (Yo xl);rw [d2] at hin;rw [hnext] at hin;have hal':decide ((((sub s l).args.length:Nat):Int)=(((sub s r).args.length:Nat):Int))=true:=jW (by omega);simp only [jd,g0,g2,g3,g4,r1,r2,e1,e2,e3,v1,v2,hnd,hal',hn];exact hin
theorem un1 (k:Nat) (ih:∀(s:jz) (es:JR) (res:Option jz),ZY s es->Hgt s 126 es->zZ k s es=some res->US s es (yi res)) (l r:T) (rest:JR) (hi:ZY [] ((l,r)::rest)) (hg:Hgt [] 126 ((l,r)::rest)) (res:Option jz) (hu:zZ (k+1) [] ((l,r)::rest)=some res) (W:JR) (off:Nat) (hW:W.drop off=(l,r)::rest) (hlen:W.length<=1000):jgv (nA off) (nA (W.length - off)) (W.map ec) [] []=yi res:=by
 obtain ⟨d1,d2,d3⟩:=Kt hW;obtain ⟨r1,r2⟩:=jdq d1;obtain ⟨al,ar,nl,nr⟩:=JB hi;have hv:=hi.1;have e1:=yE [] hv l al (by omega);have e2:=yE [] hv r ar (by omega);have w1:zt (nA off)=off:=rfl;have w2:zt (nA (W.length - off))=W.length - off:=rfl;have g1:jr .gtr false (nA (W.length - off)) (vi 0)=some (vb true):=by
  show some (vb (decide ((0:Int) < ((W.length - off:Nat):Int))))=_;rw [jW (by omega)]
 have g2:QI (W.length - off) (vi 0)=some 0:=yp (i:=0) (by omega);have g3:pB (W.length - off) (zG (W.map ec) off) none=some (W.length - off):=by
  rw [show zG (W.map ec) off=W.length - off by rw [qU,jM]];exact yj (kH _)
 have g4:pB 0 (W.length - off) (some (vi 1))=some 1:=Jj (n:=1) (by omega);have hn:j5 (W.length - off) 1=W.length - (off+1):=by unfold j5;omega
 rw [jyH];cases sl:jG (sub [] l)<;>rw [sl] at e1
 .have e1:G 196 [.agg [.sl 3 []],tm l]=some (.tup [.agg [sv [],.sl 2 []],vb false],[]):=e1;have hr:res=none:=jL (by unfold y7;rw [jp (Or.inl sl)]) hu;subst hr;obtain ⟨q,e2⟩:∃q:T × Bool,G 196 [.agg [.sl 3 []],tm r]=some (.tup [tm q.1,vb q.2],[]):=by
   cases h:jG (sub [] r)<;>rw [h] at e2
   .exact ⟨(.mk [] [],false),e2⟩
   .exact ⟨(sub [] r,true),e2⟩
  simp only [jd,w1,w2,g1,g2,g3,g4,kC,r1,r2,e1,e2];rfl
 have e1:G 196 [.agg [.sl 3 []],tm l]=some (.tup [tm (sub [] l),vb true],[]):=e1;cases sr:jG (sub [] r)<;>rw [sr] at e2
 .have e2:G 196 [.agg [.sl 3 []],tm r]=some (.tup [.agg [sv [],.sl 2 []],vb false],[]):=e2;have hr:res=none:=jL (by unfold y7;rw [jp (Or.inr sr)]) hu;subst hr;simp only [jd,w1,w2,g1,g2,g3,g4,kC,r1,r2,e1,e2];rfl
 have e2:G 196 [.agg [.sl 3 []],tm r]=some (.tup [tm (sub [] r),vb true],[]):=e2;have xl:KA (sub [] l):=KA.sub hv al;have xr:KA (sub [] r):=KA.sub hv ar;have ml:=kP sl;have mr:=kP sr;have tl:=xl.tz (by omega);have tr:=xr.tz (by omega);have e3:=zQ (sub [] l) tl.wf (sub [] r) tr.wf;have ll:=(j7 hv).1;cases hd:dq (sub [] l) (sub [] r)<;>rw [hd] at e3
 rotate_left
 .have hst:=Kx (rest:=rest) sl sr hd;have hnext:=ih _ _ res (zl hi hst).1 (zz hi hg hst) (kO hst hu);have hnext:=(hnext.2.2 rfl).1 W (off+1) d2 (by omega) hlen;simp only [jd,w1,w2,g1,g2,g3,g4,kC,r1,r2,e1,e2,e3,hn];exact hnext
 have v1:=yM (sub [] l) (xl.imp id λh=>h.1);have v2:=yM (sub [] r) (xr.imp id λh=>h.1);have bindC:ju (sub [] l).name=true\/ju (sub [] r).name=true->(∃q:Bool,G 236 [.agg [sv (sub [] l).name,jQ (sub [] l).args,sv (sub [] r).name,jQ (sub [] r).args]]=some (.tup [sb [jx (sub [] l) (sub [] r)],vb q],[])/\(q=false->yi res=yi none)/\(q=true-> ∃q2:Bool,∃u:jz,G 237 [.agg [.sl 3 []],sb [jx (sub [] l) (sub [] r)]]=some (.tup [sb u,vb q2],[])/\(q2=false->yi res=yi none)/\(q2=true->KF (nA (off+1)) (nA (W.length - (off+1))) (Zz u) (W.map ec) []=yi res))):=by
  intro hvar;have hst:=Kv (rest:=rest) sl sr hd hvar;refine ⟨_,Yi _ _ xl xr (by omega) (by omega) hvar,λhq=> ?_,λhq=> ?_⟩
  .rw [hq,jH,jq kx] at hst;rw [jL hst hu]
  .rw [hq,jJ] at hst;have hvp:jI [jx (sub [] l) (sub [] r)]=true:=by
    rw [jy] at hq;exact hq.2
   have ec1:=QB [] [jx (sub [] l) (sub [] r)] hv hvp;cases hc:jI (zC [] [jx (sub [] l) (sub [] r)])
   .rw [hc,jq kx] at hst ec1;exact ⟨false,[],ec1,λ_=>by rw [jL hst hu],λh=>by cases h⟩
   .rw [hc,jp rfl] at hst ec1;refine ⟨true,_,ec1,(λh=>by cases h),λ_=> ?_⟩;have hnext:=ih _ _ res (zl hi hst).1 (zz hi hg hst) (kO hst hu);exact hnext.1 W (off+1) d2 (by omega) hlen
 have close:ju (sub [] l).name=true\/ju (sub [] r).name=true->_:=bindC;clear bindC;cases vl:ju (sub [] l).name<;>rw [vl] at v1
 rotate_left
 .obtain ⟨q,b1,b2,b3⟩:=close (Or.inl vl);cases q
  .rw [b2 rfl];simp only [jd,w1,w2,g1,g2,g3,g4,kC,r1,r2,e1,e2,e3,v1,v2,b1];rfl
  .obtain ⟨q2,u,b4,b5,b6⟩:=b3 rfl;cases q2
   .rw [b5 rfl];simp only [jd,w1,w2,g1,g2,g3,g4,kC,r1,r2,e1,e2,e3,v1,v2,b1,b4];rfl
   .rw [<-b6 rfl];simp only [jd,w1,w2,g1,g2,g3,g4,kC,r1,r2,e1,e2,e3,v1,v2,b1,b4,hn]
 cases vr:ju (sub [] r).name<;>rw [vr] at v2
 rotate_left
 .obtain ⟨q,b1,b2,b3⟩:=close (Or.inr vr);cases q
  .rw [b2 rfl];simp only [jd,w1,w2,g1,g2,g3,g4,kC,r1,r2,e1,e2,e3,v1,v2,b1];rfl
  .obtain ⟨q2,u,b4,b5,b6⟩:=b3 rfl;cases q2
   .rw [b5 rfl];simp only [jd,w1,w2,g1,g2,g3,g4,kC,r1,r2,e1,e2,e3,v1,v2,b1,b4];rfl
   .rw [<-b6 rfl];simp only [jd,w1,w2,g1,g2,g3,g4,kC,r1,r2,e1,e2,e3,v1,v2,b1,b4,hn]
 have hst:=Kw (rest:=rest) sl sr hd vl vr;by_cases hnm:(sub [] l).name=(sub [] r).name;rotate_left
 .rw [jq (λh=>hnm h.1)] at hst;have hnd:=kA hnm;rw [jL hst hu];simp only [jd,w1,w2,g1,g2,g3,g4,kC,r1,r2,e1,e2,e3,v1,v2,hnd];rfl
 have hnd:=jW hnm;by_cases hal:(sub [] l).args.length=(sub [] r).args.length;rotate_left
 .rw [jq (λh=>hal h.2)] at hst;have hal':decide ((((sub [] l).args.length:Nat):Int)=(((sub [] r).args.length:Nat):Int))=false:=kA (by omega);rw [jL hst hu];simp only [jd,w1,w2,g1,g2,g3,g4,kC,r1,r2,e1,e2,e3,v1,v2,hnd,hal'];rfl
 rw [jp ⟨hnm,hal⟩] at hst;have hnext:=ih _ _ res (zl hi hst).1 (zz hi hg hst) (kO hst hu);have hnext:=(hnext.2.2 rfl).2;have hin:=jx5 W (off+1) hlen (sub [] l) (sub [] r) hal (Yo xl);rw [d2] at hin;rw [hnext] at hin;have hal':decide ((((sub [] l).args.length:Nat):Int)=(((sub [] r).args.length:Nat):Int))=true:=jW (by omega);simp only [jd,w1,w2,g1,g2,g3,g4,kC,r1,r2,e1,e2,e3,v1,v2,hnd,hal',hn];exact hin
theorem un6 (k:Nat) (ih:∀(s:jz) (es:JR) (res:Option jz),ZY s es->Hgt s 126 es->zZ k s es=some res->US s es (yi res)) (l r:T) (rest:JR) (hi:ZY [] ((l,r)::rest)) (hg:Hgt [] 126 ((l,r)::rest)) (res:Option jz) (hu:zZ (k+1) [] ((l,r)::rest)=some res) (W:JR) (hW:W=(l,r)::rest) (hlen:W.length<=1000):jcF (W.map ec) [] []=yi res:=by
 have hW0:W.drop 0=(l,r)::rest:=hW;obtain ⟨d1,d2,d3⟩:=Kt hW0;obtain ⟨r1,r2⟩:=jdq d1;obtain ⟨al,ar,nl,nr⟩:=JB hi;have hv:=hi.1;have e1:=yE [] hv l al (by omega);have e2:=yE [] hv r ar (by omega);have g1:jr .gtr false (yX (W.map ec)) (vi 0)=some (vb true):=by
  rw [Ys,jM,jdi,jW (by omega)]
 have g2:QI W.length (vi 0)=some 0:=yp (i:=0) (by omega);have g3:pB (z6 (W.map ec)) (zG (W.map ec) 0) none=some W.length:=by
  rw [qJ,show zG (W.map ec) 0=W.length by rw [qU,jM];rfl];exact yj (kH _)
 have g4:pB 0 W.length (some (vi 1))=some 1:=Jj (n:=1) (by omega);have g0:(0:Int) < ((W.length:Nat):Int):=by omega
 have hn:j5 (W.length) 1=W.length - (0+1):=by unfold j5;omega
 rw [jtd];cases sl:jG (sub [] l)<;>rw [sl] at e1
 .have e1:G 196 [.agg [.sl 3 []],tm l]=some (.tup [.agg [sv [],.sl 2 []],vb false],[]):=e1;have hr:res=none:=jL (by unfold y7;rw [jp (Or.inl sl)]) hu;subst hr;obtain ⟨q,e2⟩:∃q:T × Bool,G 196 [.agg [.sl 3 []],tm r]=some (.tup [tm q.1,vb q.2],[]):=by
   cases h:jG (sub [] r)<;>rw [h] at e2
   .exact ⟨(.mk [] [],false),e2⟩
   .exact ⟨(sub [] r,true),e2⟩
  simp only [jd,g0,g2,g3,g4,r1,r2,e1,e2];rfl
 have e1:G 196 [.agg [.sl 3 []],tm l]=some (.tup [tm (sub [] l),vb true],[]):=e1;cases sr:jG (sub [] r)<;>rw [sr] at e2
 .have e2:G 196 [.agg [.sl 3 []],tm r]=some (.tup [.agg [sv [],.sl 2 []],vb false],[]):=e2;have hr:res=none:=jL (by unfold y7;rw [jp (Or.inr sr)]) hu;subst hr;simp only [jd,g0,g2,g3,g4,r1,r2,e1,e2];rfl
 have e2:G 196 [.agg [.sl 3 []],tm r]=some (.tup [tm (sub [] r),vb true],[]):=e2;have xl:KA (sub [] l):=KA.sub hv al;have xr:KA (sub [] r):=KA.sub hv ar;have ml:=kP sl;have mr:=kP sr;have tl:=xl.tz (by omega);have tr:=xr.tz (by omega);have e3:=zQ (sub [] l) tl.wf (sub [] r) tr.wf;have ll:=(j7 hv).1;cases hd:dq (sub [] l) (sub [] r)<;>rw [hd] at e3
 rotate_left
 .have hst:=Kx (rest:=rest) sl sr hd;have hnext:=ih _ _ res (zl hi hst).1 (zz hi hg hst) (kO hst hu);have hnext:=(hnext.2.2 rfl).1 W (0+1) d2 (by omega) hlen;simp only [jd,g0,g2,g3,g4,r1,r2,e1,e2,e3,hn];exact hnext
 have v1:=yM (sub [] l) (xl.imp id λh=>h.1);have v2:=yM (sub [] r) (xr.imp id λh=>h.1);have bindC:ju (sub [] l).name=true\/ju (sub [] r).name=true->(∃q:Bool,G 236 [.agg [sv (sub [] l).name,jQ (sub [] l).args,sv (sub [] r).name,jQ (sub [] r).args]]=some (.tup [sb [jx (sub [] l) (sub [] r)],vb q],[])/\(q=false->yi res=yi none)/\(q=true-> ∃q2:Bool,∃u:jz,G 237 [.agg [.sl 3 []],sb [jx (sub [] l) (sub [] r)]]=some (.tup [sb u,vb q2],[])/\(q2=false->yi res=yi none)/\(q2=true->KF (nA (0+1)) (nA (W.length - (0+1))) (Zz u) (W.map ec) []=yi res))):=by
  intro hvar;have hst:=Kv (rest:=rest) sl sr hd hvar;refine ⟨_,Yi _ _ xl xr (by omega) (by omega) hvar,λhq=> ?_,λhq=> ?_⟩
  .rw [hq,jH,jq kx] at hst;rw [jL hst hu]
  .rw [hq,jJ] at hst;have hvp:jI [jx (sub [] l) (sub [] r)]=true:=by
    rw [jy] at hq;exact hq.2
   have ec1:=QB [] [jx (sub [] l) (sub [] r)] hv hvp;cases hc:jI (zC [] [jx (sub [] l) (sub [] r)])
   .rw [hc,jq kx] at hst ec1;exact ⟨false,[],ec1,λ_=>by rw [jL hst hu],λh=>by cases h⟩
   .rw [hc,jp rfl] at hst ec1;refine ⟨true,_,ec1,(λh=>by cases h),λ_=> ?_⟩;have hnext:=ih _ _ res (zl hi hst).1 (zz hi hg hst) (kO hst hu);exact hnext.1 W (0+1) d2 (by omega) hlen
 have close:ju (sub [] l).name=true\/ju (sub [] r).name=true->_:=bindC;clear bindC;cases vl:ju (sub [] l).name<;>rw [vl] at v1
 rotate_left
 .obtain ⟨q,b1,b2,b3⟩:=close (Or.inl vl);cases q
  .rw [b2 rfl];simp only [jd,g0,g2,g3,g4,r1,r2,e1,e2,e3,v1,v2,b1];rfl
  .obtain ⟨q2,u,b4,b5,b6⟩:=b3 rfl;cases q2
   .rw [b5 rfl];simp only [jd,g0,g2,g3,g4,r1,r2,e1,e2,e3,v1,v2,b1,b4];rfl
   .rw [<-b6 rfl];simp only [jd,g0,g2,g3,g4,r1,r2,e1,e2,e3,v1,v2,b1,b4,hn]
 cases vr:ju (sub [] r).name<;>rw [vr] at v2
 rotate_left
 .obtain ⟨q,b1,b2,b3⟩:=close (Or.inr vr);cases q
  .rw [b2 rfl];simp only [jd,g0,g2,g3,g4,r1,r2,e1,e2,e3,v1,v2,b1];rfl
  .obtain ⟨q2,u,b4,b5,b6⟩:=b3 rfl;cases q2
   .rw [b5 rfl];simp only [jd,g0,g2,g3,g4,r1,r2,e1,e2,e3,v1,v2,b1,b4];rfl
   .rw [<-b6 rfl];simp only [jd,g0,g2,g3,g4,r1,r2,e1,e2,e3,v1,v2,b1,b4,hn]
 have hst:=Kw (rest:=rest) sl sr hd vl vr;by_cases hnm:(sub [] l).name=(sub [] r).name;rotate_left
 .rw [jq (λh=>hnm h.1)] at hst;have hnd:=kA hnm;rw [jL hst hu];simp only [jd,g0,g2,g3,g4,r1,r2,e1,e2,e3,v1,v2,hnd];rfl
 have hnd:=jW hnm;by_cases hal:(sub [] l).args.length=(sub [] r).args.length;rotate_left
 .rw [jq (λh=>hal h.2)] at hst;have hal':decide ((((sub [] l).args.length:Nat):Int)=(((sub [] r).args.length:Nat):Int))=false:=kA (by omega);rw [jL hst hu];simp only [jd,g0,g2,g3,g4,r1,r2,e1,e2,e3,v1,v2,hnd,hal'];rfl
 rw [jp ⟨hnm,hal⟩] at hst;have hnext:=ih _ _ res (zl hi hst).1 (zz hi hg hst) (kO hst hu);have hnext:=(hnext.2.2 rfl).2;have hin:=jx5 W (0+1) hlen (sub [] l) (sub [] r) hal (Yo xl);rw [d2] at hin;rw [hnext] at hin;have hal':decide ((((sub [] l).args.length:Nat):Int)=(((sub [] r).args.length:Nat):Int))=true:=jW (by omega);simp only [jd,g0,g2,g3,g4,r1,r2,e1,e2,e3,v1,v2,hnd,hal',hn];exact hin
theorem jDs (s:jz):US s [] (yi (some s)):=by
 refine ⟨λW off hW h1 h2=> ?_,?_,λhs=> ?_⟩
 .have h3:=congrArg List.length hW;rw [qR,qM] at h3;have w2:zt (nA (W.length - off))=W.length - off:=rfl;have g1:jr .gtr false (nA (W.length - off)) (vi 0)=some (vb false):=by
   show some (vb (decide ((0:Int) < ((W.length - off:Nat):Int))))=_;rw [kA (by omega)]
  rw [jyI];simp only [jd,w2,g1];rfl
 .rw [jyL];have g1:jr .gtr false (yX (List.map ec [])) (vi 0)=some (vb false):=rfl;simp only [jd,g1];rfl
 .subst hs;refine ⟨λW off hW h1 h2=> ?_,?_⟩
  .have h3:=congrArg List.length hW;rw [qR,qM] at h3;have w2:zt (nA (W.length - off))=W.length - off:=rfl;have g1:jr .gtr false (nA (W.length - off)) (vi 0)=some (vb false):=by
    show some (vb (decide ((0:Int) < ((W.length - off:Nat):Int))))=_;rw [kA (by omega)]
   rw [jyH];simp only [jd,w2,g1];rfl
  .rw [jtd];have g1:jr .gtr false (yX (List.map ec [])) (vi 0)=some (vb false):=rfl;simp only [jd,g1];rfl
theorem jJR:∀(k:Nat) (s:jz) (es:JR) (res:Option jz),ZY s es->Hgt s 126 es->zZ k s es=some res->US s es (yi res):=by
 intro k;induction k with
 | zero=>
  intro s es res hi hg hu;cases es with
  | nil=>simp only [zZ,kY] at hu;rw [<-hu];exact jDs s
  | cons p es=>simp [zZ] at hu
 | succ k ih=>
  intro s es res hi hg hu;cases es with
  | nil=>simp only [zZ,kY] at hu;rw [<-hu];exact jDs s
  | cons p rest=>
   obtain ⟨l,r⟩:=p;have hl:=hg.len;refine ⟨λW off hW _ hlen=>un2 k ih s l r rest hi hg res hu W off hW hlen,un8 k ih s l r rest hi hg res hu _ rfl (by omega),λhs=> ?_⟩;subst hs;exact ⟨λW off hW _ hlen=>un1 k ih l r rest hi hg res hu W off hW hlen,un6 k ih l r rest hi hg res hu _ rfl (by omega)⟩
theorem jOt (W:JR):jsG (W.map ec) [] []=jcF (W.map ec) [] []:=by
 rw [jEv,jtd]
theorem jga (a b:T) (ha:Exx a) (hb:Exx b):G 190 [tm a,tm b]=yi (jaj a b):=by
 obtain ⟨k,hk⟩:=jdA ha hb;have h:=((jJR k [] [(a,b)] _ (jvm ha hb) (jFZ a b) hk).2.2 rfl).2;rw [<-jOt] at h;rw [jLg];simp only [jd];exact h
theorem juM (s:jz) (W:JR) (off:Nat) (hW:W.length<=1000) (x y:T) (hl:x.args.length=y.args.length) (h4:x.args.length<=4) :
  jnl (nA off) (nA (W.length - off)) (vb true) (vi 0) (Zz s) (sv x.name) (jQ x.args) (sv y.name) (jQ y.args) (W.map ec) [] [] []=jey (Zz s) ((x.args.zip y.args++W.drop off).map ec) [] []:=by
 have h1:zt (nA off)=off:=rfl;have h2:zt (nA (W.length - off))=W.length - off:=rfl;have hend:jK (((x.args.zip y.args).map ec).length+((W.drop off).map ec).length) 80=true:=by
  rw [jM,jM,yJ,qR];exact jij (by omega)
 have hzl:((x.args.zip y.args).map ec).length=x.args.length:=by rw [jM,yJ];omega
 have happ:jU ((x.args.zip y.args).map ec) ((W.drop off).map ec)=(x.args.zip y.args++W.drop off).map ec:=by rw [zV];rfl
 have step:∀i,(hi:i < x.args.length)->(hi2:i < y.args.length)->jU (((x.args.zip y.args).take i).map ec) [[sv x.args[i].name,jQ x.args[i].args,sv y.args[i].name,jQ y.args[i].args]]=((x.args.zip y.args).take (i+1)).map ec:=λi hi hi2=>jgd hi hi2;have key:=upto (P:=λi=>jnn (nA off) (nA (W.length - off)) (vb true) (vi (i:Nat)) (Zz s) (sv x.name) (jQ x.args) (sv y.name) (jQ y.args) (W.map ec) (((x.args.zip y.args).take i).map ec) [] []=jey (Zz s) ((x.args.zip y.args++W.drop off).map ec) [] []) (n:=x.args.length) ?_ ?_
 .have hend2:(x.args.zip y.args).take x.args.length=x.args.zip y.args:=qf (by rw [yJ];omega)
  rw [jEu];by_cases h0:0 < x.args.length
  .have hi:=h0;have hi2:0 < y.args.length:=by omega
   have hlt:(0:Int) < ((x.args.length:Nat):Int):=by omega
   have ix:=ja (k:=2) (f:=jw) hi;have ix2:=ja (k:=2) (f:=jw) hi2;have ta:=step 0 hi hi2;simp only [Jm,ye,jP,yc] at ta ix ix2;have hf:jK 1 80=true:=jij (by omega);have hck:ck (0+1)=some (vi ((1:Nat):Int)):=jZ (n:=0+1) (by omega) (by omega);have key:=key 1 (by omega);rw [<-key];simp only [jd,hlt,ix,ix2,jf,hf,ta,hck,h1,h2];generalize hB:zo _ _ _=B;have hB':B=some (.agg [sv x.args[0].name,jQ x.args[0].args,sv y.args[0].name,jQ y.args[0].args]):=by rw [<-hB];kernel_rfl
   rw [hB'];simp only [jd,hf,ta,hck,h1,h2]
  .have hlt:¬(0:Int) < ((x.args.length:Nat):Int):=by omega
   have he:x.args = []:=jb1 (by omega);have hz:x.args.zip y.args = []:=by rw [he];rfl
   rw [hz] at hend happ ⊢;have hend:jK ((W.drop off).map ec).length 80=true:=by simpa using hend
   have happ:jU [] ((W.drop off).map ec)=(W.drop off).map ec:=rfl;simp only [jd,hlt,h1,h2,jdC,qQ];rw [jM] at hend;simp only [jd,hend,happ]
 .have hend2:(x.args.zip y.args).take x.args.length=x.args.zip y.args:=qf (by rw [yJ];omega)
  rw [hend2,jyy];have hlt:¬((x.args.length:Nat):Int) < ((x.args.length:Nat):Int):=by omega
  rw [hzl,jM] at hend;simp only [jd,hlt,h1,h2,jdC,happ];rw [yJ,jgl (by omega)];simp only [jd,hend]
 .intro i hi ih;have hi2:i < y.args.length:=by omega
  have hlt:((i:Nat):Int) < ((x.args.length:Nat):Int):=by omega
  have ta:=step i hi hi2;have li:(((x.args.zip y.args).take i).map ec).length=i:=take_len (by rw [yJ];omega);have hf:jK (i+1) 80=true:=jij (by omega);have hck:ck ((i:Int)+1)=some (vi ((i+1:Nat):Int)):=jZ (by omega) (by omega);generalize ((x.args.zip y.args).take i).map ec=R at *;rw [jyy,<-ih];simp only [jd,hlt,ja hi,ja hi2,jf];generalize hB:zo _ _ _=B;have hB':B=some (.agg [sv x.args[i].name,jQ x.args[i].args,sv y.args[i].name,jQ y.args[i].args]):=by rw [<-hB];kernel_rfl
  rw [hB'];simp only [jd,li,hf,ta,hck,h1,h2]
theorem juL (W:JR) (off:Nat) (hW:W.length<=1000) (x y:T) (hl:x.args.length=y.args.length) (h4:x.args.length<=4) :
  jiU (nA off) (nA (W.length - off)) (vb true) (vi 0) (sv x.name) (jQ x.args) (sv y.name) (jQ y.args) (W.map ec) [] [] [] []=jcE ((x.args.zip y.args++W.drop off).map ec) [] [] []:=by
 have h1:zt (nA off)=off:=rfl;have h2:zt (nA (W.length - off))=W.length - off:=rfl;have hend:jK (((x.args.zip y.args).map ec).length+((W.drop off).map ec).length) 80=true:=by
  rw [jM,jM,yJ,qR];exact jij (by omega)
 have hzl:((x.args.zip y.args).map ec).length=x.args.length:=by rw [jM,yJ];omega
 have happ:jU ((x.args.zip y.args).map ec) ((W.drop off).map ec)=(x.args.zip y.args++W.drop off).map ec:=by rw [zV];rfl
 have step:∀i,(hi:i < x.args.length)->(hi2:i < y.args.length)->jU (((x.args.zip y.args).take i).map ec) [[sv x.args[i].name,jQ x.args[i].args,sv y.args[i].name,jQ y.args[i].args]]=((x.args.zip y.args).take (i+1)).map ec:=λi hi hi2=>jgd hi hi2;have key:=upto (P:=λi=>jnm (nA off) (nA (W.length - off)) (vb true) (vi (i:Nat)) (sv x.name) (jQ x.args) (sv y.name) (jQ y.args) (W.map ec) (((x.args.zip y.args).take i).map ec) [] [] []=jcE ((x.args.zip y.args++W.drop off).map ec) [] [] []) (n:=x.args.length) ?_ ?_
 .have hend2:(x.args.zip y.args).take x.args.length=x.args.zip y.args:=qf (by rw [yJ];omega)
  rw [jEt];by_cases h0:0 < x.args.length
  .have hi:=h0;have hi2:0 < y.args.length:=by omega
   have hlt:(0:Int) < ((x.args.length:Nat):Int):=by omega
   have ix:=ja (k:=2) (f:=jw) hi;have ix2:=ja (k:=2) (f:=jw) hi2;have ta:=step 0 hi hi2;simp only [Jm,ye,jP,yc] at ta ix ix2;have hf:jK 1 80=true:=jij (by omega);have hck:ck (0+1)=some (vi ((1:Nat):Int)):=jZ (n:=0+1) (by omega) (by omega);have key:=key 1 (by omega);rw [<-key];simp only [jd,hlt,ix,ix2,jf,hf,ta,hck,h1,h2];generalize hB:zo _ _ _=B;have hB':B=some (.agg [sv x.args[0].name,jQ x.args[0].args,sv y.args[0].name,jQ y.args[0].args]):=by rw [<-hB];kernel_rfl
   rw [hB'];simp only [jd,hf,ta,hck,h1,h2]
  .have hlt:¬(0:Int) < ((x.args.length:Nat):Int):=by omega
   have he:x.args = []:=jb1 (by omega);have hz:x.args.zip y.args = []:=by rw [he];rfl
   rw [hz] at hend happ ⊢;have hend:jK ((W.drop off).map ec).length 80=true:=by simpa using hend
   have happ:jU [] ((W.drop off).map ec)=(W.drop off).map ec:=rfl;simp only [jd,hlt,h1,h2,jdC,qQ];rw [jM] at hend;simp only [jd,hend,happ]
 .have hend2:(x.args.zip y.args).take x.args.length=x.args.zip y.args:=qf (by rw [yJ];omega)
  rw [hend2,jyx];have hlt:¬((x.args.length:Nat):Int) < ((x.args.length:Nat):Int):=by omega
  rw [hzl,jM] at hend;simp only [jd,hlt,h1,h2,jdC,happ];rw [yJ,jgl (by omega)];simp only [jd,hend]
 .intro i hi ih;have hi2:i < y.args.length:=by omega
  have hlt:((i:Nat):Int) < ((x.args.length:Nat):Int):=by omega
  have ta:=step i hi hi2;have li:(((x.args.zip y.args).take i).map ec).length=i:=take_len (by rw [yJ];omega);have hf:jK (i+1) 80=true:=jij (by omega);have hck:ck ((i:Int)+1)=some (vi ((i+1:Nat):Int)):=jZ (by omega) (by omega);generalize ((x.args.zip y.args).take i).map ec=R at *;rw [jyx,<-ih];simp only [jd,hlt,ja hi,ja hi2,jf];generalize hB:zo _ _ _=B;have hB':B=some (.agg [sv x.args[i].name,jQ x.args[i].args,sv y.args[i].name,jQ y.args[i].args]):=by rw [<-hB];kernel_rfl
  rw [hB'];simp only [jd,li,hf,ta,hck,h1,h2]
def USS (s:jz) (es:JR) (o:Option Out):Prop:=
 (∀(W:JR) (off:Nat),W.drop off=es->off<=W.length->W.length<=1000->yU (nA off) (nA (W.length - off)) (Zz s) (W.map ec) [] []=o)/\jey (Zz s) (es.map ec) [] []=o/\
 (s = []->(∀(W:JR) (off:Nat),W.drop off=es->off<=W.length->W.length<=1000->jgt (nA off) (nA (W.length - off)) (W.map ec) [] [] []=o)/\jcE (es.map ec) [] [] []=o)
theorem jOv (k:Nat) (ih:∀(s:jz) (es:JR) (res:Option jz),ZY s es->Hgt s 126 es->zZ k s es=some res->USS s es (yi res)) (s:jz) (l r:T) (rest:JR) (hi:ZY s ((l,r)::rest)) (hg:Hgt s 126 ((l,r)::rest)) (res:Option jz) (hu:zZ (k+1) s ((l,r)::rest)=some res) (W:JR) (off:Nat) (hW:W.drop off=(l,r)::rest) (hlen:W.length<=1000):yU (nA off) (nA (W.length - off)) (Zz s) (W.map ec) [] []=yi res:=by
 obtain ⟨d1,d2,d3⟩:=Kt hW;obtain ⟨r1,r2⟩:=jdq d1;obtain ⟨al,ar,nl,nr⟩:=JB hi;have hv:=hi.1;have e1:=qO s hv l al (by omega);have e2:=qO s hv r ar (by omega);have w1:zt (nA off)=off:=rfl;have w2:zt (nA (W.length - off))=W.length - off:=rfl;have g1:jr .gtr false (nA (W.length - off)) (vi 0)=some (vb true):=by
  show some (vb (decide ((0:Int) < ((W.length - off:Nat):Int))))=_;rw [jW (by omega)]
 have g2:QI (W.length - off) (vi 0)=some 0:=yp (i:=0) (by omega);have g3:pB (W.length - off) (zG (W.map ec) off) none=some (W.length - off):=by
  rw [show zG (W.map ec) off=W.length - off by rw [qU,jM]];exact yj (kH _)
 have g4:pB 0 (W.length - off) (some (vi 1))=some 1:=Jj (n:=1) (by omega);have hn:j5 (W.length - off) 1=W.length - (off+1):=by unfold j5;omega
 rw [jyw];cases sl:jG (sub s l)<;>rw [sl] at e1
 .have e1:G 217 [sb s,tm l]=some (.tup [.agg [sv [],.sl 2 []],vb false],[]):=e1;have hr:res=none:=jL (by unfold y7;rw [jp (Or.inl sl)]) hu;subst hr;obtain ⟨q,e2⟩:∃q:T × Bool,G 217 [sb s,tm r]=some (.tup [tm q.1,vb q.2],[]):=by
   cases h:jG (sub s r)<;>rw [h] at e2
   .exact ⟨(.mk [] [],false),e2⟩
   .exact ⟨(sub s r,true),e2⟩
  simp only [jd,w1,w2,g1,g2,g3,g4,kC,r1,r2,e1,e2];rfl
 have e1:G 217 [sb s,tm l]=some (.tup [tm (sub s l),vb true],[]):=e1;cases sr:jG (sub s r)<;>rw [sr] at e2
 .have e2:G 217 [sb s,tm r]=some (.tup [.agg [sv [],.sl 2 []],vb false],[]):=e2;have hr:res=none:=jL (by unfold y7;rw [jp (Or.inr sr)]) hu;subst hr;simp only [jd,w1,w2,g1,g2,g3,g4,kC,r1,r2,e1,e2];rfl
 have e2:G 217 [sb s,tm r]=some (.tup [tm (sub s r),vb true],[]):=e2;have xl:KA (sub s l):=KA.sub hv al;have xr:KA (sub s r):=KA.sub hv ar;have ml:=kP sl;have mr:=kP sr;have tl:=xl.tz (by omega);have tr:=xr.tz (by omega);have e3:=Jd (sub s l) tl.wf (sub s r) tr.wf;have ll:=(j7 hv).1;cases hd:dq (sub s l) (sub s r)<;>rw [hd] at e3
 rotate_left
 .have hst:=Kx (rest:=rest) sl sr hd;have hnext:=ih _ _ res (zl hi hst).1 (zz hi hg hst) (kO hst hu);have hnext:=hnext.1 W (off+1) d2 (by omega) hlen;simp only [jd,w1,w2,g1,g2,g3,g4,kC,r1,r2,e1,e2,e3,hn];exact hnext
 have v1:=zy (sub s l).name ((kJ _).1 tl.wf).1;have v2:=zy (sub s r).name ((kJ _).1 tr.wf).1;have bindC:ju (sub s l).name=true\/ju (sub s r).name=true-> ∃q2:Bool,∃u:jz,G 218 [sb s,sv (jx (sub s l) (sub s r)).1,tm (jx (sub s l) (sub s r)).2]=some (.tup [sb u,vb q2],[])/\(q2=false->yi res=yi none)/\(q2=true->yU (nA (off+1)) (nA (W.length - (off+1))) (Zz u) (W.map ec) [] []=yi res):=by
  intro hvar;have hst:=Kv (rest:=rest) sl sr hd hvar;obtain ⟨bv,hor⟩:=jcR hvar;have bz:Tz (jx (sub s l) (sub s r)).2:=hor.elim (λh=>by rw [h.2];exact tl) λh=>by rw [h.2];exact tr
  have bk:(jx (sub s l) (sub s r)).1∈kT (jx (sub s l) (sub s r)).2\/(jx (sub s l) (sub s r)).2.name≠(jx (sub s l) (sub s r)).1:=by
   by_cases hnm:(jx (sub s l) (sub s r)).2.name=(jx (sub s l) (sub s r)).1
   .left;rw [vsv (by rw [hnm];exact bv),hnm];simp
   .exact Or.inr hnm
  obtain ⟨z,eb⟩:=jdR s hv _ _ bv bz bk;rw [<-jk4] at eb;cases hc:(!decide ((jx (sub s l) (sub s r)).1∈kT (jx (sub s l) (sub s r)).2) && jI [jx (sub s l) (sub s r)]) && jI (zC s [jx (sub s l) (sub s r)])
  .rw [hc,jq kx] at hst;have eb:=eb.trans (by rw [show ((jx (sub s l) (sub s r)).1,(jx (sub s l) (sub s r)).2)=jx (sub s l) (sub s r) from rfl,hc,jq kx]);exact ⟨false,z,eb,λ_=>by rw [jL hst hu],λh=>by cases h⟩
  .rw [hc,jp rfl] at hst;have eb:=eb.trans (by rw [show ((jx (sub s l) (sub s r)).1,(jx (sub s l) (sub s r)).2)=jx (sub s l) (sub s r) from rfl,hc,jp rfl]);refine ⟨true,_,eb,(λh=>by cases h),λ_=> ?_⟩;have hnext:=ih _ _ res (zl hi hst).1 (zz hi hg hst) (kO hst hu);exact hnext.1 W (off+1) d2 (by omega) hlen
 cases vl:ju (sub s l).name<;>rw [vl] at v1
 rotate_left
 .cases vr:ju (sub s r).name<;>rw [vr] at v2
  .obtain ⟨q2,u,b1,b2,b3⟩:=bindC (Or.inl vl);have hbd:jx (sub s l) (sub s r)=((sub s l).name,sub s r):=jq (by rw [vl,vr];simp);rw [hbd] at b1;cases q2
   .rw [b2 rfl];simp only [jd,w1,w2,g1,g2,g3,g4,kC,r1,r2,e1,e2,e3,v1,v2,b1];rfl
   .rw [<-b3 rfl];simp only [jd,w1,w2,g1,g2,g3,g4,kC,r1,r2,e1,e2,e3,v1,v2,b1,hn]
  .cases hc:yT (sub s l).name (sub s r).name
   .obtain ⟨q2,u,b1,b2,b3⟩:=bindC (Or.inl vl);have hbd:jx (sub s l) (sub s r)=((sub s l).name,sub s r):=jq (by rw [vl,vr,hc];simp);rw [hbd] at b1;cases q2
    .rw [b2 rfl];simp only [jd,w1,w2,g1,g2,g3,g4,kC,r1,r2,e1,e2,e3,v1,v2,hc,b1];rfl
    .rw [<-b3 rfl];simp only [jd,w1,w2,g1,g2,g3,g4,kC,r1,r2,e1,e2,e3,v1,v2,hc,b1,hn]
   .obtain ⟨q2,u,b1,b2,b3⟩:=bindC (Or.inl vl);have hbd:jx (sub s l) (sub s r)=((sub s r).name,sub s l):=jp (Or.inr ⟨vr,hc⟩);rw [hbd] at b1;cases q2
    .rw [b2 rfl];simp only [jd,w1,w2,g1,g2,g3,g4,kC,r1,r2,e1,e2,e3,v1,v2,hc,b1];rfl
    .rw [<-b3 rfl];simp only [jd,w1,w2,g1,g2,g3,g4,kC,r1,r2,e1,e2,e3,v1,v2,hc,b1,hn]
 cases vr:ju (sub s r).name<;>rw [vr] at v2
 rotate_left
 .obtain ⟨q2,u,b1,b2,b3⟩:=bindC (Or.inr vr);have hbd:jx (sub s l) (sub s r)=((sub s r).name,sub s l):=jp (Or.inl vl);rw [hbd] at b1;cases q2
  .rw [b2 rfl];simp only [jd,w1,w2,g1,g2,g3,g4,kC,r1,r2,e1,e2,e3,v1,v2,b1];rfl
  .rw [<-b3 rfl];simp only [jd,w1,w2,g1,g2,g3,g4,kC,r1,r2,e1,e2,e3,v1,v2,b1,hn]
 have hst:=Kw (rest:=rest) sl sr hd vl vr;by_cases hnm:(sub s l).name=(sub s r).name;rotate_left
 .rw [jq (λh=>hnm h.1)] at hst;have hnd:=kA hnm;rw [jL hst hu];simp only [jd,w1,w2,g1,g2,g3,g4,kC,r1,r2,e1,e2,e3,v1,v2,hnd];rfl
 have hnd:=jW hnm;by_cases hal:(sub s l).args.length=(sub s r).args.length;rotate_left
 .rw [jq (λh=>hal h.2)] at hst;have hal':decide ((((sub s l).args.length:Nat):Int)=(((sub s r).args.length:Nat):Int))=false:=kA (by omega);rw [jL hst hu];simp only [jd,w1,w2,g1,g2,g3,g4,kC,r1,r2,e1,e2,e3,v1,v2,hnd,hal'];rfl
 rw [jp ⟨hnm,hal⟩] at hst;have hnext:=ih _ _ res (zl hi hst).1 (zz hi hg hst) (kO hst hu);have hnext:=hnext.2.1;have hin:=juM s W (off+1) hlen (sub s l) (sub s r) hal (Yo xl);rw [d2] at hin;rw [hnext] at hin;have hal':decide ((((sub s l).args.length:Nat):Int)=(((sub s r).args.length:Nat):Int))=true:=jW (by omega);simp only [jd,w1,w2,g1,g2,g3,g4,kC,r1,r2,e1,e2,e3,v1,v2,hnd,hal',hn];exact hin
theorem jOx (k:Nat) (ih:∀(s:jz) (es:JR) (res:Option jz),ZY s es->Hgt s 126 es->zZ k s es=some res->USS s es (yi res)) (s:jz) (l r:T) (rest:JR) (hi:ZY s ((l,r)::rest)) (hg:Hgt s 126 ((l,r)::rest)) (res:Option jz) (hu:zZ (k+1) s ((l,r)::rest)=some res) (W:JR) (hW:W=(l,r)::rest) (hlen:W.length<=1000):jey (Zz s) (W.map ec) [] []=yi res:=by
 have hW0:W.drop 0=(l,r)::rest:=hW;obtain ⟨d1,d2,d3⟩:=Kt hW0;obtain ⟨r1,r2⟩:=jdq d1;obtain ⟨al,ar,nl,nr⟩:=JB hi;have hv:=hi.1;have e1:=qO s hv l al (by omega);have e2:=qO s hv r ar (by omega);have g1:jr .gtr false (yX (W.map ec)) (vi 0)=some (vb true):=by
  rw [Ys,jM,jdi,jW (by omega)]
 have g2:QI W.length (vi 0)=some 0:=yp (i:=0) (by omega);have g3:pB (z6 (W.map ec)) (zG (W.map ec) 0) none=some W.length:=by
  rw [qJ,show zG (W.map ec) 0=W.length by rw [qU,jM];rfl];exact yj (kH _)
 have g4:pB 0 W.length (some (vi 1))=some 1:=Jj (n:=1) (by omega);have g0:(0:Int) < ((W.length:Nat):Int):=by omega
 have hn:j5 (W.length) 1=W.length - (0+1):=by unfold j5;omega
 rw [jyz];cases sl:jG (sub s l)<;>rw [sl] at e1
 .have e1:G 217 [sb s,tm l]=some (.tup [.agg [sv [],.sl 2 []],vb false],[]):=e1;have hr:res=none:=jL (by unfold y7;rw [jp (Or.inl sl)]) hu;subst hr;obtain ⟨q,e2⟩:∃q:T × Bool,G 217 [sb s,tm r]=some (.tup [tm q.1,vb q.2],[]):=by
   cases h:jG (sub s r)<;>rw [h] at e2
   .exact ⟨(.mk [] [],false),e2⟩
   .exact ⟨(sub s r,true),e2⟩
  simp only [jd,g0,g2,g3,g4,r1,r2,e1,e2];rfl
 have e1:G 217 [sb s,tm l]=some (.tup [tm (sub s l),vb true],[]):=e1;cases sr:jG (sub s r)<;>rw [sr] at e2
 .have e2:G 217 [sb s,tm r]=some (.tup [.agg [sv [],.sl 2 []],vb false],[]):=e2;have hr:res=none:=jL (by unfold y7;rw [jp (Or.inr sr)]) hu;subst hr;simp only [jd,g0,g2,g3,g4,r1,r2,e1,e2];rfl
 have e2:G 217 [sb s,tm r]=some (.tup [tm (sub s r),vb true],[]):=e2;have xl:KA (sub s l):=KA.sub hv al;have xr:KA (sub s r):=KA.sub hv ar;have ml:=kP sl;have mr:=kP sr;have tl:=xl.tz (by omega);have tr:=xr.tz (by omega);have e3:=Jd (sub s l) tl.wf (sub s r) tr.wf;have ll:=(j7 hv).1;cases hd:dq (sub s l) (sub s r)<;>rw [hd] at e3
 rotate_left
 .have hst:=Kx (rest:=rest) sl sr hd;have hnext:=ih _ _ res (zl hi hst).1 (zz hi hg hst) (kO hst hu);have hnext:=hnext.1 W (0+1) d2 (by omega) hlen;simp only [jd,g0,g2,g3,g4,r1,r2,e1,e2,e3,hn];exact hnext
 have v1:=zy (sub s l).name ((kJ _).1 tl.wf).1;have v2:=zy (sub s r).name ((kJ _).1 tr.wf).1;have bindC:ju (sub s l).name=true\/ju (sub s r).name=true-> ∃q2:Bool,∃u:jz,G 218 [sb s,sv (jx (sub s l) (sub s r)).1,tm (jx (sub s l) (sub s r)).2]=some (.tup [sb u,vb q2],[])/\(q2=false->yi res=yi none)/\(q2=true->yU (nA (0+1)) (nA (W.length - (0+1))) (Zz u) (W.map ec) [] []=yi res):=by
  intro hvar;have hst:=Kv (rest:=rest) sl sr hd hvar;obtain ⟨bv,hor⟩:=jcR hvar;have bz:Tz (jx (sub s l) (sub s r)).2:=hor.elim (λh=>by rw [h.2];exact tl) λh=>by rw [h.2];exact tr
  have bk:(jx (sub s l) (sub s r)).1∈kT (jx (sub s l) (sub s r)).2\/(jx (sub s l) (sub s r)).2.name≠(jx (sub s l) (sub s r)).1:=by
   by_cases hnm:(jx (sub s l) (sub s r)).2.name=(jx (sub s l) (sub s r)).1
   .left;rw [vsv (by rw [hnm];exact bv),hnm];simp
   .exact Or.inr hnm
  obtain ⟨z,eb⟩:=jdR s hv _ _ bv bz bk;rw [<-jk4] at eb;cases hc:(!decide ((jx (sub s l) (sub s r)).1∈kT (jx (sub s l) (sub s r)).2) && jI [jx (sub s l) (sub s r)]) && jI (zC s [jx (sub s l) (sub s r)])
  .rw [hc,jq kx] at hst;have eb:=eb.trans (by rw [show ((jx (sub s l) (sub s r)).1,(jx (sub s l) (sub s r)).2)=jx (sub s l) (sub s r) from rfl,hc,jq kx]);exact ⟨false,z,eb,λ_=>by rw [jL hst hu],λh=>by cases h⟩
  .rw [hc,jp rfl] at hst;have eb:=eb.trans (by rw [show ((jx (sub s l) (sub s r)).1,(jx (sub s l) (sub s r)).2)=jx (sub s l) (sub s r) from rfl,hc,jp rfl]);refine ⟨true,_,eb,(λh=>by cases h),λ_=> ?_⟩;have hnext:=ih _ _ res (zl hi hst).1 (zz hi hg hst) (kO hst hu);exact hnext.1 W (0+1) d2 (by omega) hlen
 cases vl:ju (sub s l).name<;>rw [vl] at v1
 rotate_left
 .cases vr:ju (sub s r).name<;>rw [vr] at v2
  .obtain ⟨q2,u,b1,b2,b3⟩:=bindC (Or.inl vl);have hbd:jx (sub s l) (sub s r)=((sub s l).name,sub s r):=jq (by rw [vl,vr];simp);rw [hbd] at b1;cases q2
   .rw [b2 rfl];simp only [jd,g0,g2,g3,g4,r1,r2,e1,e2,e3,v1,v2,b1];rfl
   .rw [<-b3 rfl];simp only [jd,g0,g2,g3,g4,r1,r2,e1,e2,e3,v1,v2,b1,hn]
  .cases hc:yT (sub s l).name (sub s r).name
   .obtain ⟨q2,u,b1,b2,b3⟩:=bindC (Or.inl vl);have hbd:jx (sub s l) (sub s r)=((sub s l).name,sub s r):=jq (by rw [vl,vr,hc];simp);rw [hbd] at b1;cases q2
    .rw [b2 rfl];simp only [jd,g0,g2,g3,g4,r1,r2,e1,e2,e3,v1,v2,hc,b1];rfl
    .rw [<-b3 rfl];simp only [jd,g0,g2,g3,g4,r1,r2,e1,e2,e3,v1,v2,hc,b1,hn]
   .obtain ⟨q2,u,b1,b2,b3⟩:=bindC (Or.inl vl);have hbd:jx (sub s l) (sub s r)=((sub s r).name,sub s l):=jp (Or.inr ⟨vr,hc⟩);rw [hbd] at b1;cases q2
    .rw [b2 rfl];simp only [jd,g0,g2,g3,g4,r1,r2,e1,e2,e3,v1,v2,hc,b1];rfl
    .rw [<-b3 rfl];simp only [jd,g0,g2,g3,g4,r1,r2,e1,e2,e3,v1,v2,hc,b1,hn]
 cases vr:ju (sub s r).name<;>rw [vr] at v2
 rotate_left
 .obtain ⟨q2,u,b1,b2,b3⟩:=bindC (Or.inr vr);have hbd:jx (sub s l) (sub s r)=((sub s r).name,sub s l):=jp (Or.inl vl);rw [hbd] at b1;cases q2
  .rw [b2 rfl];simp only [jd,g0,g2,g3,g4,r1,r2,e1,e2,e3,v1,v2,b1];rfl
  .rw [<-b3 rfl];simp only [jd,g0,g2,g3,g4,r1,r2,e1,e2,e3,v1,v2,b1,hn]
 have hst:=Kw (rest:=rest) sl sr hd vl vr;by_cases hnm:(sub s l).name=(sub s r).name;rotate_left
 .rw [jq (λh=>hnm h.1)] at hst;have hnd:=kA hnm;rw [jL hst hu];simp only [jd,g0,g2,g3,g4,r1,r2,e1,e2,e3,v1,v2,hnd];rfl
 have hnd:=jW hnm;by_cases hal:(sub s l).args.length=(sub s r).args.length;rotate_left
 .rw [jq (λh=>hal h.2)] at hst;have hal':decide ((((sub s l).args.length:Nat):Int)=(((sub s r).args.length:Nat):Int))=false:=kA (by omega);rw [jL hst hu];simp only [jd,g0,g2,g3,g4,r1,r2,e1,e2,e3,v1,v2,hnd,hal'];rfl
 rw [jp ⟨hnm,hal⟩] at hst;have hnext:=ih _ _ res (zl hi hst).1 (zz hi hg hst) (kO hst hu);have hnext:=hnext.2.1;have hin:=juM s W (0+1) hlen (sub s l) (sub s r) hal (Yo xl);rw [d2] at hin;rw [hnext] at hin;have hal':decide ((((sub s l).args.length:Nat):Int)=(((sub s r).args.length:Nat):Int))=true:=jW (by omega);simp only [jd,g0,g2,g3,g4,r1,r2,e1,e2,e3,v1,v2,hnd,hal',hn];exact hin
theorem jOu (k:Nat) (ih:∀(s:jz) (es:JR) (res:Option jz),ZY s es->Hgt s 126 es->zZ k s es=some res->USS s es (yi res)) (l r:T) (rest:JR) (hi:ZY [] ((l,r)::rest)) (hg:Hgt [] 126 ((l,r)::rest)) (res:Option jz) (hu:zZ (k+1) [] ((l,r)::rest)=some res) (W:JR) (off:Nat) (hW:W.drop off=(l,r)::rest) (hlen:W.length<=1000):jgt (nA off) (nA (W.length - off)) (W.map ec) [] [] []=yi res:=by
 obtain ⟨d1,d2,d3⟩:=Kt hW;obtain ⟨r1,r2⟩:=jdq d1;obtain ⟨al,ar,nl,nr⟩:=JB hi;have hv:=hi.1;have e1:=qO [] hv l al (by omega);have e2:=qO [] hv r ar (by omega);have w1:zt (nA off)=off:=rfl;have w2:zt (nA (W.length - off))=W.length - off:=rfl;have g1:jr .gtr false (nA (W.length - off)) (vi 0)=some (vb true):=by
  show some (vb (decide ((0:Int) < ((W.length - off:Nat):Int))))=_;rw [jW (by omega)]
 have g2:QI (W.length - off) (vi 0)=some 0:=yp (i:=0) (by omega);have g3:pB (W.length - off) (zG (W.map ec) off) none=some (W.length - off):=by
  rw [show zG (W.map ec) off=W.length - off by rw [qU,jM]];exact yj (kH _)
 have g4:pB 0 (W.length - off) (some (vi 1))=some 1:=Jj (n:=1) (by omega);have hn:j5 (W.length - off) 1=W.length - (off+1):=by unfold j5;omega
 rw [jyv];cases sl:jG (sub [] l)<;>rw [sl] at e1
 .have e1:G 217 [.agg [.sl 3 []],tm l]=some (.tup [.agg [sv [],.sl 2 []],vb false],[]):=e1;have hr:res=none:=jL (by unfold y7;rw [jp (Or.inl sl)]) hu;subst hr;obtain ⟨q,e2⟩:∃q:T × Bool,G 217 [.agg [.sl 3 []],tm r]=some (.tup [tm q.1,vb q.2],[]):=by
   cases h:jG (sub [] r)<;>rw [h] at e2
   .exact ⟨(.mk [] [],false),e2⟩
   .exact ⟨(sub [] r,true),e2⟩
  simp only [jd,w1,w2,g1,g2,g3,g4,kC,r1,r2,e1,e2];rfl
 have e1:G 217 [.agg [.sl 3 []],tm l]=some (.tup [tm (sub [] l),vb true],[]):=e1;cases sr:jG (sub [] r)<;>rw [sr] at e2
 .have e2:G 217 [.agg [.sl 3 []],tm r]=some (.tup [.agg [sv [],.sl 2 []],vb false],[]):=e2;have hr:res=none:=jL (by unfold y7;rw [jp (Or.inr sr)]) hu;subst hr;simp only [jd,w1,w2,g1,g2,g3,g4,kC,r1,r2,e1,e2];rfl
 have e2:G 217 [.agg [.sl 3 []],tm r]=some (.tup [tm (sub [] r),vb true],[]):=e2;have xl:KA (sub [] l):=KA.sub hv al;have xr:KA (sub [] r):=KA.sub hv ar;have ml:=kP sl;have mr:=kP sr;have tl:=xl.tz (by omega);have tr:=xr.tz (by omega);have e3:=Jd (sub [] l) tl.wf (sub [] r) tr.wf;have ll:=(j7 hv).1;cases hd:dq (sub [] l) (sub [] r)<;>rw [hd] at e3
 rotate_left
 .have hst:=Kx (rest:=rest) sl sr hd;have hnext:=ih _ _ res (zl hi hst).1 (zz hi hg hst) (kO hst hu);have hnext:=(hnext.2.2 rfl).1 W (off+1) d2 (by omega) hlen;simp only [jd,w1,w2,g1,g2,g3,g4,kC,r1,r2,e1,e2,e3,hn];exact hnext
 have v1:=zy (sub [] l).name ((kJ _).1 tl.wf).1;have v2:=zy (sub [] r).name ((kJ _).1 tr.wf).1;have bindC:ju (sub [] l).name=true\/ju (sub [] r).name=true-> ∃q2:Bool,∃u:jz,G 218 [.agg [.sl 3 []],sv (jx (sub [] l) (sub [] r)).1,tm (jx (sub [] l) (sub [] r)).2]=some (.tup [sb u,vb q2],[])/\(q2=false->yi res=yi none)/\(q2=true->yU (nA (off+1)) (nA (W.length - (off+1))) (Zz u) (W.map ec) [] []=yi res):=by
  intro hvar;have hst:=Kv (rest:=rest) sl sr hd hvar;obtain ⟨bv,hor⟩:=jcR hvar;have bz:Tz (jx (sub [] l) (sub [] r)).2:=hor.elim (λh=>by rw [h.2];exact tl) λh=>by rw [h.2];exact tr
  have bk:(jx (sub [] l) (sub [] r)).1∈kT (jx (sub [] l) (sub [] r)).2\/(jx (sub [] l) (sub [] r)).2.name≠(jx (sub [] l) (sub [] r)).1:=by
   by_cases hnm:(jx (sub [] l) (sub [] r)).2.name=(jx (sub [] l) (sub [] r)).1
   .left;rw [vsv (by rw [hnm];exact bv),hnm];simp
   .exact Or.inr hnm
  obtain ⟨z,eb⟩:=jdR [] hv _ _ bv bz bk;rw [<-jk4] at eb;cases hc:(!decide ((jx (sub [] l) (sub [] r)).1∈kT (jx (sub [] l) (sub [] r)).2) && jI [jx (sub [] l) (sub [] r)]) && jI (zC [] [jx (sub [] l) (sub [] r)])
  .rw [hc,jq kx] at hst;have eb:=eb.trans (by rw [show ((jx (sub [] l) (sub [] r)).1,(jx (sub [] l) (sub [] r)).2)=jx (sub [] l) (sub [] r) from rfl,hc,jq kx]);exact ⟨false,z,eb,λ_=>by rw [jL hst hu],λh=>by cases h⟩
  .rw [hc,jp rfl] at hst;have eb:=eb.trans (by rw [show ((jx (sub [] l) (sub [] r)).1,(jx (sub [] l) (sub [] r)).2)=jx (sub [] l) (sub [] r) from rfl,hc,jp rfl]);refine ⟨true,_,eb,(λh=>by cases h),λ_=> ?_⟩;have hnext:=ih _ _ res (zl hi hst).1 (zz hi hg hst) (kO hst hu);exact hnext.1 W (off+1) d2 (by omega) hlen
 cases vl:ju (sub [] l).name<;>rw [vl] at v1
 rotate_left
 .cases vr:ju (sub [] r).name<;>rw [vr] at v2
  .obtain ⟨q2,u,b1,b2,b3⟩:=bindC (Or.inl vl);have hbd:jx (sub [] l) (sub [] r)=((sub [] l).name,sub [] r):=jq (by rw [vl,vr];simp);rw [hbd] at b1;cases q2
   .rw [b2 rfl];simp only [jd,w1,w2,g1,g2,g3,g4,kC,r1,r2,e1,e2,e3,v1,v2,b1];rfl
   .rw [<-b3 rfl];simp only [jd,w1,w2,g1,g2,g3,g4,kC,r1,r2,e1,e2,e3,v1,v2,b1,hn]
  .cases hc:yT (sub [] l).name (sub [] r).name
   .obtain ⟨q2,u,b1,b2,b3⟩:=bindC (Or.inl vl);have hbd:jx (sub [] l) (sub [] r)=((sub [] l).name,sub [] r):=jq (by rw [vl,vr,hc];simp);rw [hbd] at b1;cases q2
    .rw [b2 rfl];simp only [jd,w1,w2,g1,g2,g3,g4,kC,r1,r2,e1,e2,e3,v1,v2,hc,b1];rfl
    .rw [<-b3 rfl];simp only [jd,w1,w2,g1,g2,g3,g4,kC,r1,r2,e1,e2,e3,v1,v2,hc,b1,hn]
   .obtain ⟨q2,u,b1,b2,b3⟩:=bindC (Or.inl vl);have hbd:jx (sub [] l) (sub [] r)=((sub [] r).name,sub [] l):=jp (Or.inr ⟨vr,hc⟩);rw [hbd] at b1;cases q2
    .rw [b2 rfl];simp only [jd,w1,w2,g1,g2,g3,g4,kC,r1,r2,e1,e2,e3,v1,v2,hc,b1];rfl
    .rw [<-b3 rfl];simp only [jd,w1,w2,g1,g2,g3,g4,kC,r1,r2,e1,e2,e3,v1,v2,hc,b1,hn]
 cases vr:ju (sub [] r).name<;>rw [vr] at v2
 rotate_left
 .obtain ⟨q2,u,b1,b2,b3⟩:=bindC (Or.inr vr);have hbd:jx (sub [] l) (sub [] r)=((sub [] r).name,sub [] l):=jp (Or.inl vl);rw [hbd] at b1;cases q2
  .rw [b2 rfl];simp only [jd,w1,w2,g1,g2,g3,g4,kC,r1,r2,e1,e2,e3,v1,v2,b1];rfl
  .rw [<-b3 rfl];simp only [jd,w1,w2,g1,g2,g3,g4,kC,r1,r2,e1,e2,e3,v1,v2,b1,hn]
 have hst:=Kw (rest:=rest) sl sr hd vl vr;by_cases hnm:(sub [] l).name=(sub [] r).name;rotate_left
 .rw [jq (λh=>hnm h.1)] at hst;have hnd:=kA hnm;rw [jL hst hu];simp only [jd,w1,w2,g1,g2,g3,g4,kC,r1,r2,e1,e2,e3,v1,v2,hnd];rfl
 have hnd:=jW hnm;by_cases hal:(sub [] l).args.length=(sub [] r).args.length;rotate_left
 .rw [jq (λh=>hal h.2)] at hst;have hal':decide ((((sub [] l).args.length:Nat):Int)=(((sub [] r).args.length:Nat):Int))=false:=kA (by omega);rw [jL hst hu];simp only [jd,w1,w2,g1,g2,g3,g4,kC,r1,r2,e1,e2,e3,v1,v2,hnd,hal'];rfl
 rw [jp ⟨hnm,hal⟩] at hst;have hnext:=ih _ _ res (zl hi hst).1 (zz hi hg hst) (kO hst hu);have hnext:=(hnext.2.2 rfl).2;have hin:=juL W (off+1) hlen (sub [] l) (sub [] r) hal (Yo xl);rw [d2] at hin;rw [hnext] at hin;have hal':decide ((((sub [] l).args.length:Nat):Int)=(((sub [] r).args.length:Nat):Int))=true:=jW (by omega);simp only [jd,w1,w2,g1,g2,g3,g4,kC,r1,r2,e1,e2,e3,v1,v2,hnd,hal',hn];exact hin
theorem jOw (k:Nat) (ih:∀(s:jz) (es:JR) (res:Option jz),ZY s es->Hgt s 126 es->zZ k s es=some res->USS s es (yi res)) (l r:T) (rest:JR) (hi:ZY [] ((l,r)::rest)) (hg:Hgt [] 126 ((l,r)::rest)) (res:Option jz) (hu:zZ (k+1) [] ((l,r)::rest)=some res) (W:JR) (hW:W=(l,r)::rest) (hlen:W.length<=1000):jcE (W.map ec) [] [] []=yi res:=by
 have hW0:W.drop 0=(l,r)::rest:=hW;obtain ⟨d1,d2,d3⟩:=Kt hW0;obtain ⟨r1,r2⟩:=jdq d1;obtain ⟨al,ar,nl,nr⟩:=JB hi;have hv:=hi.1;have e1:=qO [] hv l al (by omega);have e2:=qO [] hv r ar (by omega);have g1:jr .gtr false (yX (W.map ec)) (vi 0)=some (vb true):=by
  rw [Ys,jM,jdi,jW (by omega)]
 have g2:QI W.length (vi 0)=some 0:=yp (i:=0) (by omega);have g3:pB (z6 (W.map ec)) (zG (W.map ec) 0) none=some W.length:=by
  rw [qJ,show zG (W.map ec) 0=W.length by rw [qU,jM];rfl];exact yj (kH _)
 have g4:pB 0 W.length (some (vi 1))=some 1:=Jj (n:=1) (by omega);have g0:(0:Int) < ((W.length:Nat):Int):=by omega
 have hn:j5 (W.length) 1=W.length - (0+1):=by unfold j5;omega
 rw [jtc];cases sl:jG (sub [] l)<;>rw [sl] at e1
 .have e1:G 217 [.agg [.sl 3 []],tm l]=some (.tup [.agg [sv [],.sl 2 []],vb false],[]):=e1;have hr:res=none:=jL (by unfold y7;rw [jp (Or.inl sl)]) hu;subst hr;obtain ⟨q,e2⟩:∃q:T × Bool,G 217 [.agg [.sl 3 []],tm r]=some (.tup [tm q.1,vb q.2],[]):=by
   cases h:jG (sub [] r)<;>rw [h] at e2
   .exact ⟨(.mk [] [],false),e2⟩
   .exact ⟨(sub [] r,true),e2⟩
  simp only [jd,g0,g2,g3,g4,r1,r2,e1,e2];rfl
 have e1:G 217 [.agg [.sl 3 []],tm l]=some (.tup [tm (sub [] l),vb true],[]):=e1;cases sr:jG (sub [] r)<;>rw [sr] at e2
 .have e2:G 217 [.agg [.sl 3 []],tm r]=some (.tup [.agg [sv [],.sl 2 []],vb false],[]):=e2;have hr:res=none:=jL (by unfold y7;rw [jp (Or.inr sr)]) hu;subst hr;simp only [jd,g0,g2,g3,g4,r1,r2,e1,e2];rfl
 have e2:G 217 [.agg [.sl 3 []],tm r]=some (.tup [tm (sub [] r),vb true],[]):=e2;have xl:KA (sub [] l):=KA.sub hv al;have xr:KA (sub [] r):=KA.sub hv ar;have ml:=kP sl;have mr:=kP sr;have tl:=xl.tz (by omega);have tr:=xr.tz (by omega);have e3:=Jd (sub [] l) tl.wf (sub [] r) tr.wf;have ll:=(j7 hv).1;cases hd:dq (sub [] l) (sub [] r)<;>rw [hd] at e3
 rotate_left
 .have hst:=Kx (rest:=rest) sl sr hd;have hnext:=ih _ _ res (zl hi hst).1 (zz hi hg hst) (kO hst hu);have hnext:=(hnext.2.2 rfl).1 W (0+1) d2 (by omega) hlen;simp only [jd,g0,g2,g3,g4,r1,r2,e1,e2,e3,hn];exact hnext
 have v1:=zy (sub [] l).name ((kJ _).1 tl.wf).1;have v2:=zy (sub [] r).name ((kJ _).1 tr.wf).1;have bindC:ju (sub [] l).name=true\/ju (sub [] r).name=true-> ∃q2:Bool,∃u:jz,G 218 [.agg [.sl 3 []],sv (jx (sub [] l) (sub [] r)).1,tm (jx (sub [] l) (sub [] r)).2]=some (.tup [sb u,vb q2],[])/\(q2=false->yi res=yi none)/\(q2=true->yU (nA (0+1)) (nA (W.length - (0+1))) (Zz u) (W.map ec) [] []=yi res):=by
  intro hvar;have hst:=Kv (rest:=rest) sl sr hd hvar;obtain ⟨bv,hor⟩:=jcR hvar;have bz:Tz (jx (sub [] l) (sub [] r)).2:=hor.elim (λh=>by rw [h.2];exact tl) λh=>by rw [h.2];exact tr
  have bk:(jx (sub [] l) (sub [] r)).1∈kT (jx (sub [] l) (sub [] r)).2\/(jx (sub [] l) (sub [] r)).2.name≠(jx (sub [] l) (sub [] r)).1:=by
   by_cases hnm:(jx (sub [] l) (sub [] r)).2.name=(jx (sub [] l) (sub [] r)).1
   .left;rw [vsv (by rw [hnm];exact bv),hnm];simp
   .exact Or.inr hnm
  obtain ⟨z,eb⟩:=jdR [] hv _ _ bv bz bk;rw [<-jk4] at eb;cases hc:(!decide ((jx (sub [] l) (sub [] r)).1∈kT (jx (sub [] l) (sub [] r)).2) && jI [jx (sub [] l) (sub [] r)]) && jI (zC [] [jx (sub [] l) (sub [] r)])
  .rw [hc,jq kx] at hst;have eb:=eb.trans (by rw [show ((jx (sub [] l) (sub [] r)).1,(jx (sub [] l) (sub [] r)).2)=jx (sub [] l) (sub [] r) from rfl,hc,jq kx]);exact ⟨false,z,eb,λ_=>by rw [jL hst hu],λh=>by cases h⟩
  .rw [hc,jp rfl] at hst;have eb:=eb.trans (by rw [show ((jx (sub [] l) (sub [] r)).1,(jx (sub [] l) (sub [] r)).2)=jx (sub [] l) (sub [] r) from rfl,hc,jp rfl]);refine ⟨true,_,eb,(λh=>by cases h),λ_=> ?_⟩;have hnext:=ih _ _ res (zl hi hst).1 (zz hi hg hst) (kO hst hu);exact hnext.1 W (0+1) d2 (by omega) hlen
 cases vl:ju (sub [] l).name<;>rw [vl] at v1
 rotate_left
 .cases vr:ju (sub [] r).name<;>rw [vr] at v2
  .obtain ⟨q2,u,b1,b2,b3⟩:=bindC (Or.inl vl);have hbd:jx (sub [] l) (sub [] r)=((sub [] l).name,sub [] r):=jq (by rw [vl,vr];simp);rw [hbd] at b1;cases q2
   .rw [b2 rfl];simp only [jd,g0,g2,g3,g4,r1,r2,e1,e2,e3,v1,v2,b1];rfl
   .rw [<-b3 rfl];simp only [jd,g0,g2,g3,g4,r1,r2,e1,e2,e3,v1,v2,b1,hn]
  .cases hc:yT (sub [] l).name (sub [] r).name
   .obtain ⟨q2,u,b1,b2,b3⟩:=bindC (Or.inl vl);have hbd:jx (sub [] l) (sub [] r)=((sub [] l).name,sub [] r):=jq (by rw [vl,vr,hc];simp);rw [hbd] at b1;cases q2
    .rw [b2 rfl];simp only [jd,g0,g2,g3,g4,r1,r2,e1,e2,e3,v1,v2,hc,b1];rfl
    .rw [<-b3 rfl];simp only [jd,g0,g2,g3,g4,r1,r2,e1,e2,e3,v1,v2,hc,b1,hn]
   .obtain ⟨q2,u,b1,b2,b3⟩:=bindC (Or.inl vl);have hbd:jx (sub [] l) (sub [] r)=((sub [] r).name,sub [] l):=jp (Or.inr ⟨vr,hc⟩);rw [hbd] at b1;cases q2
    .rw [b2 rfl];simp only [jd,g0,g2,g3,g4,r1,r2,e1,e2,e3,v1,v2,hc,b1];rfl
    .rw [<-b3 rfl];simp only [jd,g0,g2,g3,g4,r1,r2,e1,e2,e3,v1,v2,hc,b1,hn]
 cases vr:ju (sub [] r).name<;>rw [vr] at v2
 rotate_left
 .obtain ⟨q2,u,b1,b2,b3⟩:=bindC (Or.inr vr);have hbd:jx (sub [] l) (sub [] r)=((sub [] r).name,sub [] l):=jp (Or.inl vl);rw [hbd] at b1;cases q2
  .rw [b2 rfl];simp only [jd,g0,g2,g3,g4,r1,r2,e1,e2,e3,v1,v2,b1];rfl
  .rw [<-b3 rfl];simp only [jd,g0,g2,g3,g4,r1,r2,e1,e2,e3,v1,v2,b1,hn]
 have hst:=Kw (rest:=rest) sl sr hd vl vr;by_cases hnm:(sub [] l).name=(sub [] r).name;rotate_left
 .rw [jq (λh=>hnm h.1)] at hst;have hnd:=kA hnm;rw [jL hst hu];simp only [jd,g0,g2,g3,g4,r1,r2,e1,e2,e3,v1,v2,hnd];rfl
 have hnd:=jW hnm;by_cases hal:(sub [] l).args.length=(sub [] r).args.length;rotate_left
 .rw [jq (λh=>hal h.2)] at hst;have hal':decide ((((sub [] l).args.length:Nat):Int)=(((sub [] r).args.length:Nat):Int))=false:=kA (by omega);rw [jL hst hu];simp only [jd,g0,g2,g3,g4,r1,r2,e1,e2,e3,v1,v2,hnd,hal'];rfl
 rw [jp ⟨hnm,hal⟩] at hst;have hnext:=ih _ _ res (zl hi hst).1 (zz hi hg hst) (kO hst hu);have hnext:=(hnext.2.2 rfl).2;have hin:=juL W (0+1) hlen (sub [] l) (sub [] r) hal (Yo xl);rw [d2] at hin;rw [hnext] at hin;have hal':decide ((((sub [] l).args.length:Nat):Int)=(((sub [] r).args.length:Nat):Int))=true:=jW (by omega);simp only [jd,g0,g2,g3,g4,r1,r2,e1,e2,e3,v1,v2,hnd,hal',hn];exact hin
theorem jAS (s:jz):USS s [] (yi (some s)):=by
 refine ⟨λW off hW h1 h2=> ?_,?_,λhs=> ?_⟩
 .have h3:=congrArg List.length hW;rw [qR,qM] at h3;have w2:zt (nA (W.length - off))=W.length - off:=rfl;have g1:jr .gtr false (nA (W.length - off)) (vi 0)=some (vb false):=by
   show some (vb (decide ((0:Int) < ((W.length - off:Nat):Int))))=_;rw [kA (by omega)]
  rw [jyw];simp only [jd,w2,g1];rfl
 .rw [jyz];have g1:jr .gtr false (yX (List.map ec [])) (vi 0)=some (vb false):=rfl;simp only [jd,g1];rfl
 .subst hs;refine ⟨λW off hW h1 h2=> ?_,?_⟩
  .have h3:=congrArg List.length hW;rw [qR,qM] at h3;have w2:zt (nA (W.length - off))=W.length - off:=rfl;have g1:jr .gtr false (nA (W.length - off)) (vi 0)=some (vb false):=by
    show some (vb (decide ((0:Int) < ((W.length - off:Nat):Int))))=_;rw [kA (by omega)]
   rw [jyv];simp only [jd,w2,g1];rfl
  .rw [jtc];have g1:jr .gtr false (yX (List.map ec [])) (vi 0)=some (vb false):=rfl;simp only [jd,g1];rfl
theorem jE5:∀(k:Nat) (s:jz) (es:JR) (res:Option jz),ZY s es->Hgt s 126 es->zZ k s es=some res->USS s es (yi res):=by
 intro k;induction k with
 | zero=>
  intro s es res hi hg hu;cases es with
  | nil=>simp only [zZ,kY] at hu;rw [<-hu];exact jAS s
  | cons p es=>simp [zZ] at hu
 | succ k ih=>
  intro s es res hi hg hu;cases es with
  | nil=>simp only [zZ,kY] at hu;rw [<-hu];exact jAS s
  | cons p rest=>
   obtain ⟨l,r⟩:=p;have hl:=hg.len;refine ⟨λW off hW _ hlen=>jOv k ih s l r rest hi hg res hu W off hW hlen,jOx k ih s l r rest hi hg res hu _ rfl (by omega),λhs=> ?_⟩;subst hs;exact ⟨λW off hW _ hlen=>jOu k ih l r rest hi hg res hu W off hW hlen,jOw k ih l r rest hi hg res hu _ rfl (by omega)⟩
theorem jJS (W:JR):jsF (W.map ec) [] [] []=jcE (W.map ec) [] [] []:=by
 rw [jEs,jtc]
theorem jbG (a b:T) (ha:Exx a) (hb:Exx b):G 172 [tm a,tm b]=yi (jaj a b):=by
 obtain ⟨k,hk⟩:=jdA ha hb;have h:=((jE5 k [] [(a,b)] _ (jvm ha hb) (jFZ a b) hk).2.2 rfl).2;rw [<-jJS] at h;rw [jK2];simp only [jd];exact h
open Go Go.RowKit Go.ChangeShapes Go.Deep Go.Proofs.YtoaifmomhaneiaaGreatDoor.Abs
section
variable {P:Program} {t:Nat} {H:Type} {enc:TypeId × Value->H} {w:World} {base:Nat} {spare:Nat->Bool} {held:Bool} {fuel:Nat} {cs:List Value} {x:DataW H × List MemPlace}
theorem jkO {α β γ δ:Type} {g0:α->List A} {g1:β->List A} {g2:γ->List A} {g3:δ->List A} {p0:α->Prop} {p1:β->Prop} {p2:γ->Prop} {p3:δ->Prop} {f0 f1 f2 f3:Field} {k0 k1 k2 k3:Nat} (ht:P.underlying t=some (.struct #[f0,f1,f2,f3]))
  (o0:f0.offset=0) (o1:f1.offset=k0) (o2:f2.offset=k0+k1) (o3:f3.offset=k0+k1+k2) (c0:P.cellsOf f0.type=k0) (c1:P.cellsOf f1.type=k1) (c2:P.cellsOf f2.type=k2) (c3:P.cellsOf f3.type=k3) (c:P.cellsOf t=k0+k1+k2+k3)
  (h0:∀n cs x,n < fuel->DataW.trod enc P w base spare held n f0.type cs=some x-> ∃a,p0 a/\jF w (λ_=>False) (g0 a) cs/\jC cs)
  (h1:∀n cs x,n < fuel->DataW.trod enc P w base spare held n f1.type cs=some x-> ∃a,p1 a/\jF w (λ_=>False) (g1 a) cs/\jC cs)
  (h2:∀n cs x,n < fuel->DataW.trod enc P w base spare held n f2.type cs=some x-> ∃a,p2 a/\jF w (λ_=>False) (g2 a) cs/\jC cs)
  (h3:∀n cs x,n < fuel->DataW.trod enc P w base spare held n f3.type cs=some x-> ∃a,p3 a/\jF w (λ_=>False) (g3 a) cs/\jC cs)
  (h:DataW.trod enc P w base spare held fuel t cs=some x):∃a b d e,p0 a/\p1 b/\p2 d/\p3 e/\jF w (λ_=>False) (g0 a++g1 b++g2 d++g3 e) cs/\jC cs:=by
 obtain ⟨xs,n,hfn,rfl,hl,hlen,hf⟩:=DataW.trod_struct ht h;have e0:=hf 0 f0 rfl;have e1:=hf 1 f1 rfl;have e2:=hf 2 f2 rfl;have e3:=hf 3 f3 rfl;rw [o0,c0] at e0;rw [o1,c1] at e1;rw [o2,c2] at e2;rw [o3,c3] at e3;have hlen:xs.length=4:=hlen;have hx0:xs[0]? = some xs[0]:=kh (by omega);have hx1:xs[1]? = some xs[1]:=kh (by omega);have hx2:xs[2]? = some xs[2]:=kh (by omega);have hx3:xs[3]? = some xs[3]:=kh (by omega);rw [hx0] at e0;rw [hx1] at e1;rw [hx2] at e2;rw [hx3] at e3;obtain ⟨a,q1,q2,q3⟩:=h0 n _ _ (by omega) e0;obtain ⟨b,r1,r2,r3⟩:=h1 n _ _ (by omega) e1;obtain ⟨d,s1,s2,s3⟩:=h2 n _ _ (by omega) e2;obtain ⟨f,u1,u2,u3⟩:=h3 n _ _ (by omega) e3;have e:cs=(cs.drop 0).take k0++(cs.drop k0).take k1++(cs.drop (k0+k1)).take k2++(cs.drop (k0+k1+k2)).take k3:=by
  rw [qf (l:=cs.drop (k0+k1+k2)) (by simp;omega),kg,yf,<-jlf (i:=k2),jew,yf,<-jlf,jew,jew]
 rw [e];exact ⟨a,b,d,f,q1,r1,s1,u1,zu (zu (zu q2 r2) s2) u2,jC.append (jC.append (jC.append q3 r3) s3) u3⟩
end
abbrev clc (c:zg):List A:=[.sl 3 (c.map j8)]
structure Stp where
 rule:Int
 par:List Int
 whr:List Int
 cls:zg
abbrev stc (s:Stp):List A:=[vi s.rule,ints s.par,ints s.whr,.sl 3 (s.cls.map j8)]
abbrev stm (s:Stp):A:= .agg [vi s.rule,ints s.par,ints s.whr,.sl 3 (s.cls.map j8)]
structure Prf where
 ax:List zg
 st:List Stp
abbrev cls (l:List zg):A:= .sl 1 (l.map clc)
abbrev yr (l:List Stp):A:= .sl 4 (l.map stc)
abbrev prc (p:Prf):List A:=[cls p.ax,yr p.st]
abbrev Yr (p:Prf):A:= .agg [cls p.ax,yr p.st]
structure Sch where
 prf:Prf
 act:List Int
 pas:List Int
 lost:Bool
abbrev scc (s:Sch):List A:=[cls s.prf.ax,yr s.prf.st,ints s.act,ints s.pas,vb s.lost]
abbrev scm (s:Sch):A:= .agg [cls s.prf.ax,yr s.prf.st,ints s.act,ints s.pas,vb s.lost]
def iwf (l:List Int):Prop:=(∀x∈l,I64 x)/\l.length<=9223372036854775807
def cwf (c:zg):Prop:=(∀l∈c,JO l.2)/\c.length<=9223372036854775807
def swf (s:Stp):Prop:=I64 s.rule/\iwf s.par/\iwf s.whr/\cwf s.cls
def pwf (p:Prf):Prop:=((∀c∈p.ax,cwf c)/\p.ax.length<=9223372036854775807)/\((∀s∈p.st,swf s)/\p.st.length<=9223372036854775807)
def jmJ (s:Sch):Prop:=pwf s.prf/\iwf s.act/\iwf s.pas
theorem jER:Rdr Tryz.prog 154 j8 (λl:Lt=>JO l.2):=λ_ _ _ _ _ _ fuel cs x h=>by
 obtain ⟨a,b,h1,h2,h3,h4⟩:=jkN (k0:=1) (k1:=2) Tryz.underlying154 rfl rfl (by kernel_rfl) (by kernel_rfl) (by kernel_rfl)
  (λ_ _ _ _ h=>ju4 _ _ _ _ _ _ _ _ _ h) (λ_ _ _ _ h=>jB4 _ _ _ _ _ _ _ _ _ h) h
 rw [zn] at h3;exact ⟨(a,b),h2,h3,h4⟩
theorem jB2:Rdr Tryz.prog 87 (λc:zg=>[A.sl 3 (c.map j8)]) cwf:=
 Rdr.slice Tryz.underlying87 (by kernel_rfl) (by decide) (λ_=>rfl) jER
theorem jmx:Rdr Tryz.prog 89 clc cwf:=λ_ _ _ _ _ _ fuel cs x h=>by
 obtain ⟨a,h1,h2,h3⟩:=jtS (k0:=1) Tryz.underlying89 rfl (by kernel_rfl) (by kernel_rfl)
  (λ_ _ _ _ h=>jB2 _ _ _ _ _ _ _ _ _ h) h
 exact ⟨a,h1,h2,h3⟩
theorem jtE:Rdr Tryz.prog 22 (λl:List zg=>[cls l]) (λl=>(∀c∈l,cwf c)/\l.length<=9223372036854775807):=
 Rdr.slice Tryz.underlying22 (by kernel_rfl) (by decide) (λ_=>rfl) jmx
theorem jB3:Rdr Tryz.prog 92 stc swf:=λ_ _ _ _ _ _ fuel cs x h=>by
 obtain ⟨a,b,d,e,h1,h2,h3,h4,h5,h6⟩:=jkO (k0:=1) (k1:=1) (k2:=1) (k3:=1) Tryz.underlying92 rfl rfl rfl rfl (by kernel_rfl) (by kernel_rfl) (by kernel_rfl) (by kernel_rfl) (by kernel_rfl)
  (λ_ _ _ _ h=>jo0 _ _ _ _ _ _ _ _ _ h) (λ_ _ _ _ h=>jiA _ _ _ _ _ _ _ _ _ h) (λ_ _ _ _ h=>jiA _ _ _ _ _ _ _ _ _ h) (λ_ _ _ _ h=>jmx _ _ _ _ _ _ _ _ _ h) h
 exact ⟨⟨a,b,d,e⟩,⟨h1,h2,h3,h4⟩,h5,h6⟩
theorem jAk:Rdr Tryz.prog 23 (λl:List Stp=>[yr l]) (λl=>(∀s∈l,swf s)/\l.length<=9223372036854775807):=
 Rdr.slice Tryz.underlying23 (by kernel_rfl) (by decide) (λ_=>rfl) jB3
theorem jaY:Rdr Tryz.prog 25 prc pwf:=λ_ _ _ _ _ _ fuel cs x h=>by
 obtain ⟨a,b,h1,h2,h3,h4⟩:=jkN (k0:=1) (k1:=1) Tryz.underlying25 rfl rfl (by kernel_rfl) (by kernel_rfl) (by kernel_rfl)
  (λ_ _ _ _ h=>jtE _ _ _ _ _ _ _ _ _ h) (λ_ _ _ _ h=>jAk _ _ _ _ _ _ _ _ _ h) h
 exact ⟨⟨a,b⟩,⟨h1,h2⟩,h3,h4⟩
theorem jmy:Rdr Tryz.prog 43 scc jmJ:=λ_ _ _ _ _ _ fuel cs x h=>by
 obtain ⟨a,b,d,e,h1,h2,h3,h4,h5,h6⟩:=jkO (k0:=2) (k1:=1) (k2:=1) (k3:=1) Tryz.underlying43 rfl rfl rfl rfl (by kernel_rfl) (by kernel_rfl) (by kernel_rfl) (by kernel_rfl) (by kernel_rfl)
  (λ_ _ _ _ h=>jaY _ _ _ _ _ _ _ _ _ h) (λ_ _ _ _ h=>jiA _ _ _ _ _ _ _ _ _ h) (λ_ _ _ _ h=>jiA _ _ _ _ _ _ _ _ _ h) (λ_ _ _ _ h=>ju4 _ _ _ _ _ _ _ _ _ h) h
 exact ⟨⟨a,b,d,e⟩,⟨h1,h2,h3⟩,h5,h6⟩
end Go.Proofs.YtoaifmomhaneiaaGreatDoor
