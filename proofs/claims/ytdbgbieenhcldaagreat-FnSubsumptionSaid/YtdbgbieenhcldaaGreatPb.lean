/- Pb -/
import Derived.Test.YtdbgbieenhcldaaGreatPa
import Derived.Lib.ItoaNum
import Derived.Test.YtdbgbieenhcldaaGreatPq
namespace Go.Proofs.YtdbgbieenhcldaaGreat
open Go Go.RowKit Go.Proofs.YtdbgbieenhcldaaGreat.Abs
set_option linter.unusedSimpArgs false
set_option linter.unusedVariables false
set_option maxHeartbeats 1000000
def upN:List UInt8->Bool
 | []=>false
 | c::_=>upc c
mutual
def val (M:List UInt8->List Int->Int) (e:List UInt8->Int):T->Int
 | .mk n us=>if us.isEmpty && upN n then e n else M n (jqO M e us)
def jqO (M:List UInt8->List Int->Int) (e:List UInt8->Int):List T->List Int
 | []=>[]
 | t::ts=>val M e t::jqO M e ts
end
theorem jhS (M:List UInt8->List Int->Int) (e:List UInt8->Int):∀ts:List T,jqO M e ts=ts.map (val M e)
 | []=>rfl
 | t::ts=>by rw [jqO,jhS M e ts,List.map_cons]
theorem jfu (M:List UInt8->List Int->Int) (e:List UInt8->Int) (t:T):val M e t=if t.args.isEmpty && upN t.name then e t.name else M t.name (t.args.map (val M e)):=by
 obtain ⟨n,us⟩:=t;rw [val,jhS];rfl
theorem jkP {n:List UInt8} (h:ju n=true):upN n=true:=by
 cases n with
 | nil=>cases h
 | cons c r=>simp only [ju,Bool.and_eq_true] at h;exact h.1
theorem jbd {n:List UInt8} (h:zQ n=true):upN n=false:=by
 cases n with
 | nil=>rfl
 | cons c r=>
  simp only [zQ,Bool.and_eq_true] at h;have h:=h.1;show upc c=false;cases hu:upc c with
  | false=>rfl
  | true=>
   simp only [upc,ZK,Kz,Bool.and_eq_true,decide_eq_true_eq] at h hu;omega
theorem jiL {t:T} (h:zt t=true) (hv:ju t.name=false):zQ t.name=true:=by
 rw [zS,hv,if_neg Bool.false_ne_true,Bool.and_eq_true] at h;exact h.1
section
variable {M:List UInt8->List Int->Int}
theorem jfv {e:List UInt8->Int} {t:T} (h:zt t=true) (hv:ju t.name=true):val M e t=e t.name:=by
 rw [jfu,Zm h hv,jkP hv];rfl
theorem jbe {e:List UInt8->Int} {t:T} (h:upN t.name=false):val M e t=M t.name (t.args.map (val M e)):=by
 rw [jfu,h,Bool.and_false,if_neg Bool.false_ne_true]
theorem jqP (u:jk) (e:List UInt8->Int):∀t:T,zt t=true->val M e (sub u t)=val M (λx=>val M e (JK u x)) t:=by
 refine T.ind λt ih=> ?_;intro ht;cases hv:ju t.name with
 | true=>rw [jfv ht hv,yG hv]
 | false=>
  have hs:=jbd (jiL ht hv);rw [jbe hs,yh hv,jbe (t:= .mk t.name (t.args.map (sub u))) hs];show M t.name ((t.args.map (sub u)).map (val M e))=_;rw [List.map_map];congr 1;exact List.map_congr_left λa ha=>ih a ha (zz ht a ha)
theorem jmp {e e':List UInt8->Int} :∀t:T,zt t=true->(∀x∈yd t,e x=e' x)->val M e t=val M e' t:=by
 refine T.ind λt ih=> ?_;intro ht h;rw [Jj] at h;cases hv:ju t.name with
 | true=>
  rw [jfv ht hv,jfv ht hv];rw [hv,if_pos rfl] at h;exact h _ (by simp)
 | false=>
  have hs:=jbd (jiL ht hv);rw [jbe hs,jbe hs];rw [hv,if_neg Bool.false_ne_true] at h;congr 1;refine List.map_congr_left λa ha=>ih a ha (zz ht a ha) λx hx=>h x ?_;have:∀us:List T,a∈us->x∈kO us:=by
   intro us;induction us with
   | nil=>intro h;cases h
   | cons v vs ih=>
    intro h;rw [kO];rcases List.mem_cons.1 h with rfl|h
    ·exact List.mem_append_left _ hx
    ·exact List.mem_append_right _ (ih h)
  exact this _ ha
def Ext (m m':jk):Prop:=∀x r,look m x=some r->look m' x=some r
theorem Ext.refl (m:jk):Ext m m:=λ_ _ h=>h
theorem Ext.trans {a b c:jk} (h:Ext a b) (h':Ext b c):Ext a c:=λx r hx=>h' x r (h x r hx)
theorem jsH:∀(a:T) {m m':jk} {t:T},zt a=true->mt m a t=some m'->Ext m m'/\ ∀m'',Ext m' m''->sub m'' a=t:=by
 refine T.ind (p:=λa=>∀ {m m':jk} {t:T},zt a=true->mt m a t=some m'->Ext m m'/\ ∀m'',Ext m' m''->sub m'' a=t) λa ih=> ?_;intro m m' t ha h;cases hv:ju a.name with
 | true=>
  rw [Jb hv] at h;split at h
  ·rename_i r hl;split at h
   ·rename_i hd;cases h;refine ⟨Ext.refl _,λm'' h=> ?_⟩;rw [yG hv,JK,h _ _ hl];exact zv.1 hd
   ·cases h
  ·rename_i hl;cases h;refine ⟨λx r hx=>by rw [Jv,hx],λm'' h=> ?_⟩;have:look (m++[(a.name,t)]) a.name=some t:=by rw [Jv,hl];simp [look]
   rw [yG hv,JK,h _ _ this];rfl
 | false=>
  rw [yP hv] at h;split at h
  ·rename_i hn;have key:∀(us:List T) (ts:List T) {m m':jk},(∀u∈us,u∈a.args)->us.length=ts.length->yw m us ts=some m'->Ext m m'/\ ∀m'',Ext m' m''->us.map (sub m'')=ts:=by
    intro us;induction us with
    | nil=>
     intro ts m m' _ hl h;simp only [yw,Option.some.injEq] at h;cases ts with
     | nil=>exact h ▸ ⟨Ext.refl _,λ_ _=>rfl⟩
     | cons=>cases hl
    | cons u us ih2=>
     intro ts m m' hu hl h;cases ts with
     | nil=>cases hl
     | cons s ts=>
      simp only [yw] at h;obtain ⟨m1,h1,h2⟩:=Option.bind_eq_some_iff.1 h;obtain ⟨x1,x2⟩:=ih u (hu u (by simp)) (zz ha u (hu u (by simp))) h1;obtain ⟨y1,y2⟩:=ih2 ts (λv hv=>hu v (by simp [hv])) (Nat.succ.inj hl) h2;exact ⟨x1.trans y1,λm'' h=>by rw [List.map_cons,x2 m'' (y1.trans h),y2 m'' h]⟩
   obtain ⟨x1,x2⟩:=key a.args t.args (λ_ h=>h) hn.2 h;refine ⟨x1,λm'' h=> ?_⟩;rw [yh hv,x2 m'' h,hn.1];cases t;rfl
  ·cases h
variable {good:Int->Prop}
theorem jcS (hM:∀n vs,good (M n vs)) {e:List UInt8->Int} (he:∀x,good (e x)) (t:T):good (val M e t):=by
 rw [jfu];split
 ·exact he _
 ·exact hM _ _
def jwx (M:List UInt8->List Int->Int) (good:Int->Prop) (rs:List T):Prop:=∀r∈rs,∀e:List UInt8->Int,(∀x,good (e x))->val M e (J0 r)=val M e (J5 r)
end
def dec (n:Nat):Nat->Nat->List Nat
 | 0,_=>[]
 | l+1,k=>k % n::dec n l (k / n)
def enc (n:Nat):List Nat->Nat
 | []=>0
 | v::vs=>v+n * enc n vs
theorem jnk {n:Nat} (hn:1<=n):∀vs:List Nat,(∀v∈vs,v < n)->enc n vs < n ^ vs.length
 | [],_=>by simp [enc]
 | v::vs,h=>by
  have h1:=h v (by simp);have h2:=jnk hn vs λw hw=>h w (by simp [hw]);rw [enc,List.length_cons,Nat.pow_succ,Nat.mul_comm (n ^ vs.length) n];have:n * (enc n vs+1)<=n * n ^ vs.length:=Nat.mul_le_mul_left n h2;rw [Nat.mul_add] at this;omega
theorem jjV {n:Nat} (hn:1<=n):∀vs:List Nat,(∀v∈vs,v < n)->dec n vs.length (enc n vs)=vs
 | [],_=>rfl
 | v::vs,h=>by
  have h1:=h v (by simp);have h2:=jjV hn vs λw hw=>h w (by simp [hw]);rw [List.length_cons,dec,enc,Nat.add_mul_mod_self_left,Nat.mod_eq_of_lt h1,Nat.add_mul_div_left _ _ (by omega),Nat.div_eq_of_lt h1,Nat.zero_add,h2]
def vnA (l:List (List UInt8)) (n:List UInt8):List (List UInt8):=if l.contains n then l else l++[n]
mutual
def vn (l:List (List UInt8)):T->List (List UInt8)
 | .mk n us=>if us.isEmpty && upN n then vnA l n else vnL l us
def vnL (l:List (List UInt8)):List T->List (List UInt8)
 | []=>l
 | t::ts=>vnL (vn l t) ts
end
theorem jkV (l:List (List UInt8)) (t:T):vn l t=if t.args.isEmpty && upN t.name then vnA l t.name else vnL l t.args:=by cases t;rfl
def VIn (S:List (List UInt8)) (t:T):Prop:=∀x∈yd t,x∈S
theorem jmt {S l:List (List UInt8)} {n:List UInt8} (hl:l.Nodup) (hS:∀x∈l,x∈S) (hn:n∈S):(vnA l n).Nodup/\(∀x∈vnA l n,x∈S)/\(∀x∈l,x∈vnA l n)/\n∈vnA l n:=by
 unfold vnA;split
 ·rename_i h;exact ⟨hl,hS,λ_ h=>h,List.contains_iff_mem.1 h⟩
 ·rename_i h;have h:n ∉ l:=λhh=>h (List.contains_iff_mem.2 hh);refine ⟨?_,λx hx=> ?_,λx hx=>List.mem_append_left _ hx,by simp⟩
  ·rw [List.nodup_append];exact ⟨hl,by simp,λa ha b hb=>by simp only [List.mem_singleton] at hb;subst hb;exact λe=>h (e ▸ ha)⟩
  ·rcases List.mem_append.1 hx with hx|hx
   ·exact hS x hx
   ·simp only [List.mem_singleton] at hx;exact hx ▸ hn
theorem joX {S:List (List UInt8)} :∀(t:T),zt t=true->VIn S t-> ∀l:List (List UInt8),l.Nodup->(∀x∈l,x∈S)->(vn l t).Nodup/\(∀x∈vn l t,x∈S)/\(∀x∈l,x∈vn l t)/\ ∀x∈yd t,x∈vn l t:=by
 refine T.ind λt ih=> ?_;intro ht hV l hl hS;rw [jkV];unfold VIn at hV;rw [Jj] at hV ⊢;cases hv:ju t.name with
 | true=>
  rw [hv,if_pos rfl] at hV;rw [Zm ht hv,jkP hv,if_pos rfl];obtain ⟨q1,q2,q3,q4⟩:=jmt hl hS (hV t.name (by simp));exact ⟨q1,q2,q3,λx hx=>by simp only [if_true,List.mem_singleton] at hx;exact hx ▸ q4⟩
 | false=>
  rw [hv,if_neg Bool.false_ne_true] at hV;rw [jbd (jiL ht hv),Bool.and_false,if_neg Bool.false_ne_true];have key:∀us:List T,(∀u∈us,u∈t.args)->(∀x∈kO us,x∈S)-> ∀l:List (List UInt8),l.Nodup->(∀x∈l,x∈S)->(vnL l us).Nodup/\(∀x∈vnL l us,x∈S)/\(∀x∈l,x∈vnL l us)/\ ∀x∈kO us,x∈vnL l us:=by
   intro us;induction us with
   | nil=>intro _ _ l hl hS;exact ⟨hl,hS,λ_ h=>h,λx h=>by cases h⟩
   | cons u us ih2=>
    intro hu hV l hl hS;rw [kO] at hV;obtain ⟨q1,q2,q3,q4⟩:=ih u (hu u (by simp)) (zz ht u (hu u (by simp))) (λx hx=>hV x (List.mem_append_left _ hx)) l hl hS;obtain ⟨p1,p2,p3,p4⟩:=ih2 (λv hv=>hu v (by simp [hv])) (λx hx=>hV x (List.mem_append_right _ hx)) (vn l u) q1 q2;rw [vnL,kO];refine ⟨p1,p2,λx hx=>p3 x (q3 x hx),λx hx=> ?_⟩;rcases List.mem_append.1 hx with hx|hx
    ·exact p3 x (q4 x hx)
    ·exact p4 x hx
  exact key t.args (λ_ h=>h) hV l hl hS
abbrev Lt:=Bool × T
def fl (b:Bool):Nat:=if b then 1 else 0
def cmpL (a b:Lt):Int:=if zc a.2 b.2≠0 then zc a.2 b.2 else jV (fl a.1) (fl b.1)
theorem z7:Law3 cmpL:=jsB (f:=Prod.snd) (g:=λl:Lt=>fl l.1) jnb KP λx y h1 h2=>by
 obtain ⟨p,t⟩:=x;obtain ⟨q,u⟩:=y;have h1:t=u:=h1;have h2:fl p=fl q:=h2;subst h1;cases p<;>cases q<;>first|rfl|(simp [fl] at h2)
abbrev j7:=List Lt
def jfW:j7->Bool
 | a::b::l=>decide (cmpL a b < 0) && jfW (b::l)
 | _=>true
theorem jbq:∀c:j7,jfW c=true↔Asc cmpL c
 | []=>by simp [jfW,Asc]
 | [a]=>by simp [jfW,Asc]
 | a::b::l=>by
  rw [jfW,Bool.and_eq_true,decide_eq_true_eq,jbq (b::l)];unfold Asc;constructor
  ·rintro ⟨h1,h2⟩;refine List.pairwise_cons.2 ⟨λx hx=> ?_,h2⟩;rcases List.mem_cons.1 hx with e|e
   ·rw [e];exact h1
   ·exact z7.trans a b x h1 ((List.pairwise_cons.1 h2).1 x e)
  ·intro h;exact ⟨(List.pairwise_cons.1 h).1 b (by simp),(List.pairwise_cons.1 h).2⟩
mutual
def Yh (l:List (List UInt8)):T->List (List UInt8)
 | .mk n us=>if ju n then vnA l n else QG l us
def QG (l:List (List UInt8)):List T->List (List UInt8)
 | []=>l
 | t::ts=>QG (Yh l t) ts
end
theorem jql (l:List (List UInt8)) (t:T):Yh l t=if ju t.name then vnA l t.name else QG l t.args:=by cases t;rfl
def zj (c:j7):List (List UInt8):=c.foldl (λl x=>Yh l x.2) []
def jnX (p:UInt8) (i:Nat):List UInt8:=p::Lib.decDigits i
def jj8 (c:j7):Bool:=decide (zj c=(List.range (zj c).length).map (jnX 88))
mutual
def zX (f:List UInt8->List UInt8):T->T
 | .mk n us=>if ju n then .mk (f n) [] else .mk n (kX f us)
def kX (f:List UInt8->List UInt8):List T->List T
 | []=>[]
 | t::ts=>zX f t::kX f ts
end
theorem Zc (f:List UInt8->List UInt8):∀ts:List T,kX f ts=ts.map (zX f)
 | []=>rfl
 | t::ts=>by rw [kX,Zc f ts,List.map_cons]
theorem jfg (f:List UInt8->List UInt8) (t:T):zX f t=if ju t.name then .mk (f t.name) [] else .mk t.name (t.args.map (zX f)):=by
 cases t;rw [zX,Zc];rfl
def Q4 (p:UInt8) (l:List (List UInt8)) (n:List UInt8):List UInt8:=match l.findIdx? (λx=>decide (x=n)) with|some i=>jnX p i|none=>n
def renC (p:UInt8) (c:j7):j7:=kz cmpL (c.map λl=>(l.1,zX (Q4 p (zj c)) l.2))
def normF:Nat->j7->j7
 | 0,c=>c
 | k+1,c=>if jj8 c then c else normF k (renC 88 c)
def normC (c:j7):j7:=normF 10 c
theorem jdt (t:T) (h:zt t=true\/t.name = [61]):G 102 [tm t]=some (vb (ju t.name),[]):=by
 rcases h with h|h
 ·exact jbS t h
 ·have e1:=Kg 61;have hx:j8 (sv t.name) (vi 0)=some (vy ((61:UInt8).toNat:Int)):=by rw [h];exact kR
  have hv:ju t.name=upc 61:=by rw [h];decide
  rw [jsx,hv];simp only [jf,hx,e1]
theorem Kc (x y:List UInt8):j4 x y=if kQ x y then -1 else if kQ y x then 1 else 0:=by
 have hf:=qd.flip x y;cases h1:kQ x y with
 | true=>unfold j4;rw [h1];rfl
 | false=>
  rw [if_neg Bool.false_ne_true];cases h2:kQ y x with
  | true=>
   have:j4 y x = -1:=by unfold j4;rw [h2,if_pos rfl]
   rw [if_pos rfl];omega
  | false=>
   rw [if_neg Bool.false_ne_true];have a1:j4 x y=0\/j4 x y=1:=by
    unfold j4;rw [h1,if_neg Bool.false_ne_true];split<;>simp
   have a2:j4 y x=0\/j4 y x=1:=by
    unfold j4;rw [h2,if_neg Bool.false_ne_true];split<;>simp
   omega
theorem jdK (b:Bool) (x y:List UInt8):js .gtr b (sv x) (sv y)=some (vb (kQ y x)):=by
 show some (vb (!(kQ x y || decide (x=y))))=_;by_cases e:x=y
 ·subst e;rw [Jz,decide_eq_true rfl];rfl
 have h1:=Kc x y;have h3:=qd.flip x y;have h4:=Kc y x;rw [decide_eq_false e,Bool.or_false];cases a:kQ x y<;>cases c:kQ y x<;>rw [a,c] at h1 h4
 ·exact absurd ((qd.zero x y).1 h1) e
 ·rfl
 ·rfl
 ·have h1:j4 x y = -1:=h1;have h4:j4 y x = -1:=h4;omega
theorem KQ (x y:List UInt8):G 78 [sv x,sv y]=some (vi (j4 x y),[]):=by
 have n1:G 108 [sv x]=some (vb false,[]):=by rw [jub];simp only [jf]
 have n2:G 108 [sv y]=some (vb false,[]):=by rw [jub];simp only [jf]
 rw [g78,Kc];cases h1:kQ x y<;>cases h2:kQ y x<;>simp only [jf,n1,n2,jdK,h1,h2]
theorem Q7 (x y:Nat):G 71 [vi (x:Nat),vi (y:Nat)]=some (vi (jV x y),[]):=by
 have n1:G 104 [vi (x:Nat)]=some (vb false,[]):=by rw [jua];simp only [jf]
 have n2:G 104 [vi (y:Nat)]=some (vb false,[]):=by rw [jua];simp only [jf]
 rw [g71];unfold jV;by_cases h1:x < y
 ·have h1':((x:Nat):Int) < ((y:Nat):Int):=by omega
  rw [if_pos h1];simp only [jf,n1,n2,h1']
 ·have h1':¬((x:Nat):Int) < ((y:Nat):Int):=by omega
  rw [if_neg h1];by_cases h2:y < x
  ·have h2':((y:Nat):Int) < ((x:Nat):Int):=by omega
   rw [if_pos h2];simp only [jf,n1,n2,h1',h2']
  ·have h2':¬((y:Nat):Int) < ((x:Nat):Int):=by omega
   rw [if_neg h2];simp only [jf,n1,n2,h1',h2']
theorem jn7 (a b:Int):G 69 [.sl 1 [[vi a],[vi b]]]=some (vi (if a≠0 then a else b),[]):=by
 have i0:jh 1 (.sl 1 [[vi a],[vi b]]) (vi 0)=some (.elt [vi a] 0):=rfl;have i1:jh 1 (.sl 1 [[vi a],[vi b]]) (vi 1)=some (.elt [vi b] 0):=rfl;have ll:yq (.sl 1 [[vi a],[vi b]])=some (vi 2):=rfl;have c0:js .add false (vi 0) (vi 1)=some (vi 1):=by rw [J2,jE (by decide) (by decide)];rfl
 have c1:js .add false (vi 1) (vi 1)=some (vi 2):=by rw [J2,jE (by decide) (by decide)];rfl
 have z0:(0:Int) < 2:=by decide
 have z1:(1:Int) < 2:=by decide
 have z2:¬(2:Int) < 2:=by decide
 generalize A.sl 1 [[vi a],[vi b]]=X at *;have k2:jfL (vi 0) X (vi 2) (vi 2)=some (vi 0,[]):=by rw [jnO];simp only [jf,z2]
 have k1:jfL (vi 0) X (vi 2) (vi 1)=some (vi b,[]):=by
  rw [jnO];by_cases hb:b=0
  ·simp only [jf,z1,i1,hb,c1,k2]
  ·simp only [jf,z1,i1,hb]
 rw [g69];simp only [cev];rw [ll,Option.bind_some,jnO];by_cases ha:a=0
 ·rw [if_neg (λh=>h ha)];simp only [jf,z0,i0,ha,c0,k1]
 ·rw [if_pos ha];simp only [jf,z0,i0,ha]
def Rx' (t:T):Prop:=zt t=true\/(t.name = [61]/\ ∀u∈t.args,zt u=true)
theorem Rx'.args {t:T} (h:Rx' t):∀u∈t.args,Rx' u:=λu hu=>Or.inl (by
 rcases h with h|h
 ·exact zz h u hu
 ·exact h.2 u hu)
theorem Qy (ts us:List T) (hl:ts.length<=1048576) (hlen:ts.length=us.length) (ih:∀t∈ts,∀u∈us,G 70 [tm t,tm u]=some (vi (zc t u),[])) :
  ∀i,i<=ts.length->jel (j6 ts) (j6 us) (.fn 70 []) (j6 ts) (vi (ts.length:Nat)) (vi (i:Nat))=some (vi (kE (ts.drop i) (us.drop i)),[]):=by
 refine upto ?_ ?_
 ·rw [jnE,List.drop_length,kE];simp only [jf,hlen]
 ·intro i hi ih';have hlt:(i:Int) < ((ts.length:Nat):Int):=by omega
  have hi2:i < us.length:=by omega
  have hge:¬((us.length:Nat):Int)<=(i:Int):=by omega
  have h5:=jz hi (by show ts.length<=9223372036854775807;omega)
  have e1:=ih ts[i] (List.getElem_mem _) us[i] (List.getElem_mem _);rw [jnE,jl hi,jl hi2,kE];by_cases hc:zc ts[i] us[i]=0
  ·rw [if_neg (λh=>h hc)];rw [hc] at e1;simp only [jf,hlt,jb hi,jb hi2,jg,hge,qb (f:=70) rfl,List.append_nil,e1,h5,ih']
  ·rw [if_pos hc];generalize zc ts[i] us[i]=c at *;simp only [jf,hlt,jb hi,jb hi2,jg,hge,qb (f:=70) rfl,List.append_nil,e1,hc]
theorem jaA:∀a:T,Rx' a->Tz a-> ∀b:T,Rx' b->Tz b->G 70 [tm a,tm b]=some (vi (zc a b),[]):=by
 refine T.ind λa ih ha za b hb zb=> ?_;have va:=jdt a (ha.imp id λh=>h.1);have vb':=jdt b (hb.imp id λh=>h.1);have hz:=za;unfold Tz at hz;rw [jY] at hz;have e1:=KQ a.name b.name;have e2:=Q7 a.args.length b.args.length;have e3:=jn7 (j4 a.name b.name) (jV a.args.length b.args.length);have e4:a.args.length=b.args.length->G 103 [j6 a.args,j6 b.args,.fn 70 []]=some (vi (kE a.args b.args),[]):=λhlen=>by
  have key:=Qy a.args b.args (by omega) hlen (λt ht u hu=>ih t ht (ha.args t ht) (za.args t ht) u (hb.args u hu) (zb.args u hu)) 0 (Nat.zero_le _);simp only [Int.natCast_zero,List.drop_zero] at key;rw [jvR];simp only [jf,key]
 rw [g70,Kb];unfold cK ya vF;cases h1:ju a.name<;>cases h2:ju b.name<;>rw [h1] at va<;>rw [h2] at vb'
 ·show _=some (vi (if (if jV 1 1≠0 then jV 1 1 else if j4 a.name b.name≠0 then j4 a.name b.name else jV a.args.length b.args.length)≠0 then (if jV 1 1≠0 then jV 1 1 else if j4 a.name b.name≠0 then j4 a.name b.name else jV a.args.length b.args.length) else kE a.args b.args),[]);rw [if_neg (show ¬jV 1 1≠0 by decide)];by_cases hz0:(if j4 a.name b.name≠0 then j4 a.name b.name else jV a.args.length b.args.length)=0
  ·have hlen:a.args.length=b.args.length:=by
    split at hz0
    ·rename_i h;exact absurd hz0 h
    ·exact (KP.zero _ _).1 hz0
   rw [if_neg (λh=>h hz0)];rw [hz0] at e3;simp only [jf,va,vb',e1,e2,e3,e4 hlen]
  ·rw [if_pos hz0];generalize (if j4 a.name b.name≠0 then j4 a.name b.name else jV a.args.length b.args.length)=c at *;simp only [jf,va,vb',e1,e2,e3,hz0]
 ·have:(if (if jV 1 0≠0 then jV 1 0 else if j4 a.name b.name≠0 then j4 a.name b.name else jV a.args.length b.args.length)≠0 then (if jV 1 0≠0 then jV 1 0 else if j4 a.name b.name≠0 then j4 a.name b.name else jV a.args.length b.args.length) else kE a.args b.args)=1:=by
   rw [if_pos (show jV 1 0≠0 by decide),if_pos (show jV 1 0≠0 by decide)];rfl
  show _=some (vi (if (if jV 1 0≠0 then jV 1 0 else if j4 a.name b.name≠0 then j4 a.name b.name else jV a.args.length b.args.length)≠0 then (if jV 1 0≠0 then jV 1 0 else if j4 a.name b.name≠0 then j4 a.name b.name else jV a.args.length b.args.length) else kE a.args b.args),[]);rw [this];simp only [jf,va,vb']
 ·have:(if (if jV 0 1≠0 then jV 0 1 else if j4 a.name b.name≠0 then j4 a.name b.name else jV a.args.length b.args.length)≠0 then (if jV 0 1≠0 then jV 0 1 else if j4 a.name b.name≠0 then j4 a.name b.name else jV a.args.length b.args.length) else kE a.args b.args) = -1:=by
   rw [if_pos (show jV 0 1≠0 by decide),if_pos (show jV 0 1≠0 by decide)];rfl
  show _=some (vi (if (if jV 0 1≠0 then jV 0 1 else if j4 a.name b.name≠0 then j4 a.name b.name else jV a.args.length b.args.length)≠0 then (if jV 0 1≠0 then jV 0 1 else if j4 a.name b.name≠0 then j4 a.name b.name else jV a.args.length b.args.length) else kE a.args b.args),[]);rw [this];simp only [jf,va,vb']
 ·show _=some (vi (if (if jV 0 0≠0 then jV 0 0 else if j4 a.name b.name≠0 then j4 a.name b.name else jV a.args.length b.args.length)≠0 then (if jV 0 0≠0 then jV 0 0 else if j4 a.name b.name≠0 then j4 a.name b.name else jV a.args.length b.args.length) else kE a.args b.args),[]);rw [if_neg (show ¬jV 0 0≠0 by decide)];by_cases hz0:(if j4 a.name b.name≠0 then j4 a.name b.name else jV a.args.length b.args.length)=0
  ·have hlen:a.args.length=b.args.length:=by
    split at hz0
    ·rename_i h;exact absurd hz0 h
    ·exact (KP.zero _ _).1 hz0
   rw [if_neg (λh=>h hz0)];rw [hz0] at e3;simp only [jf,va,vb',e1,e2,e3,e4 hlen]
  ·rw [if_pos hz0];generalize (if j4 a.name b.name≠0 then j4 a.name b.name else jV a.args.length b.args.length)=c at *;simp only [jf,va,vb',e1,e2,e3,hz0]
theorem jlp (x y:List UInt8):G 100 [sv x,sv y]=some (vi (j4 x y),[]):=by
 rw [jvP,Kc];cases h1:kQ x y<;>cases h2:kQ y x<;>simp only [jf,jdK,h1,h2]
theorem jbY (n m:List UInt8) (ts us:List T) (hl:ts.length<=1048576) (hlen:ts.length=us.length) (ih:∀t∈ts,∀u∈us,G 64 [tm t,tm u]=some (vi (zc t u),[])) :
  ∀i,i<=ts.length->jfJ (vi (i:Nat)) (sv n) (j6 ts) (sv m) (j6 us)=some (vi (kE (ts.drop i) (us.drop i)),[]):=by
 refine upto ?_ ?_
 ·rw [jrD,List.drop_length,kE];simp only [jf]
 ·intro i hi ih';have hlt:(i:Int) < ((ts.length:Nat):Int):=by omega
  have hi2:i < us.length:=by omega
  have h5:=jz hi (by show ts.length<=9223372036854775807;omega)
  have e1:=ih ts[i] (List.getElem_mem _) us[i] (List.getElem_mem _);rw [jrD,jl hi,jl hi2,kE];by_cases hc:zc ts[i] us[i]=0
  ·rw [if_neg (λh=>h hc)];rw [hc] at e1;simp only [jf,hlt,jb hi,jb hi2,jg,e1,h5,ih']
  ·rw [if_pos hc];generalize zc ts[i] us[i]=c at *;simp only [jf,hlt,jb hi,jb hi2,jg,e1,hc]
theorem jif (a b:T):zc a b=if ju a.name=true/\ju b.name=false then -1 else if ju a.name=false/\ju b.name=true then 1 else if ¬a.name=b.name then j4 a.name b.name else if a.args.length < b.args.length then -1 else if b.args.length < a.args.length then 1 else kE a.args b.args:=by
 rw [Kb];unfold cK ya vF;have hn:=qd.zero a.name b.name;have hzr:jV 1 1=0/\jV 0 0=0/\jV 0 1 = -1/\jV 1 0=1:=by decide
 obtain ⟨z1,z2,z3,z4⟩:=hzr;have hz:jV a.args.length b.args.length=if a.args.length < b.args.length then -1 else if b.args.length < a.args.length then 1 else 0:=rfl;cases h1:ju a.name<;>cases h2:ju b.name<;>simp only [Bool.false_eq_true,if_true,if_false,z1,z2,z3,z4,hz]
 all_goals have hs:=(qd.zero b.name b.name).2 rfl
 all_goals by_cases e:a.name=b.name
 all_goals by_cases l1:a.args.length < b.args.length
 all_goals by_cases l2:b.args.length < a.args.length
 all_goals first
  | (simp [e,hs,l1,l2];done)
  | (have ne:¬j4 a.name b.name=0:=λh=>e (hn.1 h);simp only [ne_eq,e,ne,not_false_eq_true,not_true_eq_false,if_true,if_false,and_true,true_and,and_false,false_and,reduceCtorEq];done)
  | simp [l1,l2]
theorem jeM:∀a:T,Tz a-> ∀b:T,Tz b->G 64 [tm a,tm b]=some (vi (zc a b),[]):=by
 refine T.ind λa ih za b zb=> ?_;have va:=JZ a.name (((zg a).1 za.wf).1);have vb':=JZ b.name (((zg b).1 zb.wf).1);have hz:=za;unfold Tz at hz;rw [jY] at hz;have e1:=jlp a.name b.name;have e4:a.args.length=b.args.length->jfJ (vi 0) (sv a.name) (j6 a.args) (sv b.name) (j6 b.args)=some (vi (kE a.args b.args),[]):=λhlen=>by
  have key:=jbY a.name b.name a.args b.args (by omega) hlen (λt ht u hu=>ih t ht (za.args t ht) u (zb.args u hu)) 0 (Nat.zero_le _);simp only [Int.natCast_zero,List.drop_zero] at key;exact key
 rw [g64,jif];have main:∀p:Bool,G 47 [sv a.name]=some (vb p,[])->G 47 [sv b.name]=some (vb p,[])->_:=λp _ _=>trivial;clear main;cases h1:ju a.name<;>cases h2:ju b.name<;>rw [h1] at va<;>rw [h2] at vb'
 all_goals by_cases en:a.name=b.name
 all_goals try (exfalso;rw [en,h2] at h1;cases h1;done)
 all_goals by_cases l1:a.args.length < b.args.length
 all_goals by_cases l2:b.args.length < a.args.length
 all_goals have l1':(((a.args.length:Nat):Int) < ((b.args.length:Nat):Int))=(a.args.length < b.args.length):=propext (by omega)
 all_goals have l2':(((b.args.length:Nat):Int) < ((a.args.length:Nat):Int))=(b.args.length < a.args.length):=propext (by omega)
 all_goals first
  | (have e4:=e4 (by omega);rw [en] at e4;simp only [jf,va,vb',e1,en,l1,l2,l1',l2',e4,and_true,true_and,and_false,false_and];done)
  | (simp only [jf,va,vb',e1,en,l1,l2,l1',l2',and_true,true_and,and_false,false_and];done)
  | (simp only [jf,va,vb',e1,en,l1,l2,l1',l2',and_true,true_and,and_false,false_and])
abbrev jy (l:Lt):List A:=[vb l.1,sv l.2.name,.sl 2 (l.2.args.map jx)]
abbrev ltm (l:Lt):A:= .agg [vb l.1,sv l.2.name,.sl 2 (l.2.args.map jx)]
theorem jj0 (b:Bool):G 72 [vb b]=some (vi (fl b:Nat),[]):=by
 rw [g72];cases b<;>simp only [jf]<;>rfl
theorem qY (a b:Lt) (ha:Rx' a.2) (za:Tz a.2) (hb:Rx' b.2) (zb:Tz b.2):G 43 [ltm a,ltm b]=some (vi (cmpL a b),[]):=by
 have e1:=jaA a.2 ha za b.2 hb zb;have e2:=jj0 a.1;have e3:=jj0 b.1;have e4:=Q7 (fl a.1) (fl b.1);have e5:=jn7 (zc a.2 b.2) (jV (fl a.1) (fl b.1));have e6:cmpL a b=if zc a.2 b.2≠0 then zc a.2 b.2 else jV (fl a.1) (fl b.1):=rfl;rw [g43,e6];generalize (if zc a.2 b.2≠0 then zc a.2 b.2 else jV (fl a.1) (fl b.1))=c at *;generalize jV (fl a.1) (fl b.1)=d at *;generalize zc a.2 b.2=f at *;simp only [jf,e1,e2,e3,e4,e5]
theorem JE (a b:Lt) (za:Tz a.2) (zb:Tz b.2):G 35 [ltm a,ltm b]=some (vi (cmpL a b),[]):=by
 have e1:=jeM a.2 za b.2 zb;have e6:cmpL a b=if zc a.2 b.2≠0 then zc a.2 b.2 else jV (fl a.1) (fl b.1):=rfl;rw [g35,e6];by_cases h:zc a.2 b.2=0
 ·rw [if_neg (λh'=>h' h)];rw [h] at e1;obtain ⟨p,t⟩:=a;obtain ⟨q,u⟩:=b;have d1:jV (fl false) (fl true) = -1:=by decide
  have d2:jV (fl true) (fl false)=1:=by decide
  have d3:jV (fl true) (fl true)=0:=by decide
  have d4:jV (fl false) (fl false)=0:=by decide
  cases p<;>cases q<;>simp only [jf,e1,d1,d2,d3,d4]
 ·rw [if_pos h];generalize zc a.2 b.2=c at *;simp only [jf,e1,h]
def zy (t:T):Bool:=if t.name = [61] then jgd t else zQ t.name && kD t
theorem jdw (t:T) (hw:QV t) (hs:tsz t<=1048576):G 34 [tm t]=some (vb (zy t),[]):=by
 unfold zy;by_cases he:t.name = [61]
 ·rw [if_pos he];exact jiy t hw hs he
 ·have e1:=jaf t.name ((zg t).1 hw).1;have e2:=jdy t hw hs;rw [if_neg he,g34];cases h:zQ t.name<;>rw [h] at e1
  ·simp only [jf,he,e1,Bool.false_and]
  ·simp only [jf,he,e1,e2,Bool.true_and]
theorem jbR (t:T) (hw:QV t) (hs:tsz t<=1048576):G 68 [tm t]=some (vb (zy t),[]):=by
 unfold zy;by_cases he:t.name = [61]
 ·rw [if_pos he];exact jaD t hw hs he
 ·have e0:=JC t;rw [decide_eq_false he] at e0;have e1:=jac t.name ((zg t).1 hw).1;have e2:=KY t hw hs;rw [if_neg he,g68];cases h:zQ t.name<;>rw [h] at e1
  ·simp only [jf,e0,e1,Bool.false_and]
  ·simp only [jf,e0,e1,e2,Bool.true_and]
abbrev cm (c:j7):A:= .agg [.sl 3 (c.map jy)]
def jM (c:j7):Bool:=c.all (λl=>zy l.2) && (jfW c && decide (c.length<=8))
theorem jjP {t:T} (h:zy t=true):Rx' t:=by
 unfold zy at h;by_cases he:t.name = [61]
 ·rw [if_pos he] at h;unfold jgd at h;rw [Bool.and_eq_true,decide_eq_true_eq,Bool.and_eq_true,Bool.and_eq_true] at h;refine Or.inr ⟨he,λu hu=> ?_⟩;obtain ⟨n,us⟩:=t
  match us,h.1 with
  | [a,b],_=>
   have hu:u ∈ [a,b]:=hu;simp only [List.mem_cons,List.not_mem_nil,or_false] at hu;rcases hu with rfl|rfl
   ·exact h.2.2.1
   ·exact h.2.2.2
 ·rw [if_neg he,Bool.and_eq_true] at h;have h2:=h.2;unfold kD at h2;rw [Bool.and_eq_true] at h2;exact Or.inl h2.2
theorem Y0 (l:Lt) (hz:Tz l.2):G 42 [ltm l]=some (vb (zy l.2),[]):=by
 have e:=jbR l.2 hz.wf hz;rw [g42];simp only [jf,e]
def KC:Option Lt->j7->Bool
 | _,[]=>true
 | none,l::r=>zy l.2 && KC (some l) r
 | some p,l::r=>zy l.2 && (decide (cmpL p l < 0) && KC (some l) r)
theorem jee:∀(p:Lt) (c:j7),KC (some p) c=(c.all (λl=>zy l.2) && jfW (p::c))
 | p,[]=>rfl
 | p,l::r=>by
  rw [KC,jee l r,List.all_cons,jfW];cases zy l.2<;>cases decide (cmpL p l < 0)<;>simp
theorem jed (c:j7):(KC none c && decide (c.length<=8))=jM c:=by
 unfold jM;cases c with
 | nil=>rfl
 | cons l r=>rw [KC,jee,List.all_cons];cases zy l.2<;>simp [Bool.and_assoc]
theorem yg (l:Lt):jF 3 (.elt (jy l) 0)=some (ltm l):=rfl
theorem jhT (c:j7) (hl:c.length<=1048576) (hz:∀l∈c,Tz l.2):∀i,i<=c.length-> ∀p:Option Lt,(p=none↔i=0)->(∀q,p=some q->zy q.2=true/\ ∃h:i - 1 < c.length,c[i - 1]=q)->
  jjr (.sl 3 (c.map jy)) (vi (c.length:Nat)) (vi (i:Nat)) (.sl 3 (c.map jy))=some (vb (KC p (c.drop i) && decide (c.length<=8)),[]):=by
 refine upto ?_ ?_
 ·intro p _ _;have e:decide (((c.length:Nat):Int)<=8)=decide (c.length<=8):=by congr 1;exact propext (by omega)
  rw [jrh,List.drop_length,<-e];have:KC p []=true:=by cases p<;>rfl
  rw [this];simp only [jf,Bool.true_and]
 ·intro i hi ih p hp hq;have hlt:(i:Int) < ((c.length:Nat):Int):=by omega
  have h5:=jz hi (by show c.length<=9223372036854775807;omega)
  have e1:=Y0 c[i] (hz _ (List.getElem_mem hi));have ix:=jb (k:=3) (f:=jy) hi;have e1:G 42 [.agg [vb c[i].1,sv c[i].2.name,j6 c[i].2.args]]=some (vb (zy c[i].2),[]):=e1;rw [jrh,jl hi];cases ha:zy c[i].2 with
  | false=>
   rw [ha] at e1;have:KC p (c[i]::c.drop (i+1))=false:=by cases p<;>rw [KC,ha]<;>rfl
   rw [this];simp only [jf,hlt,ix,yg,e1,Bool.false_and]
  | true=>
   rw [ha] at e1;have ih1:=ih (some c[i]) (by simp) (λq hq=>by cases hq;exact ⟨ha,by simpa using hi,rfl⟩);cases p with
   | none=>
    have h0:i=0:=hp.1 rfl;have hg:¬(0:Int) < (i:Int):=by omega
    rw [KC,ha,Bool.true_and,<-ih1];simp only [jf,hlt,ix,yg,e1,hg,h5]
   | some q=>
    obtain ⟨hqa,hq1,hq2⟩:=hq q rfl;have hi0:¬i=0:=λh=>by have:=hp.2 h;cases this
    have hg:(0:Int) < (i:Int):=by omega
    have c1:ck ((i:Int) - 1)=some (vi ((i - 1:Nat):Int)):=by rw [show (i:Int) - 1=((i - 1:Nat):Int) by omega,jE (by omega) (by omega)]
    have ix2:=jb (k:=3) (f:=jy) hq1;rw [hq2] at ix2;have hqz:Tz q.2:=by rw [<-hq2];exact hz _ (List.getElem_mem hq1)
    have e2:=qY q c[i] (jjP hqa) hqz (jjP ha) (hz _ (List.getElem_mem hi));have e2:G 43 [.agg [vb q.1,sv q.2.name,j6 q.2.args],.agg [vb c[i].1,sv c[i].2.name,j6 c[i].2.args]]=some (vi (cmpL q c[i]),[]):=e2;rw [KC,ha,Bool.true_and];by_cases hc:cmpL q c[i] < 0
    ·have hc':¬(0:Int)<=cmpL q c[i]:=by omega
     rw [decide_eq_true hc,Bool.true_and,<-ih1];generalize cmpL q c[i]=d at *;simp only [jf,hlt,ix,yg,e1,hg,c1,ix2,e2,hc',h5]
    ·have hc':(0:Int)<=cmpL q c[i]:=by omega
     rw [decide_eq_false hc];generalize cmpL q c[i]=d at *;simp only [jf,hlt,ix,yg,e1,hg,c1,ix2,e2,hc',Bool.false_and]
theorem kA (c:j7) (hl:c.length<=1048576) (hz:∀l∈c,Tz l.2):G 20 [cm c]=some (vb (jM c),[]):=by
 have key:=jhT c hl hz 0 (Nat.zero_le _) none (by simp) (λq h=>by cases h);rw [List.drop_zero,jed] at key;simp only [Int.natCast_zero] at key;rw [g20];simp only [jf,key]
theorem jhU (c:j7) (hl:c.length<=1048576) (hz:∀l∈c,Tz l.2):∀i,i<=c.length-> ∀p:Option Lt,(p=none↔i=0)->(∀q,p=some q-> ∃h:i - 1 < c.length,c[i - 1]=q)->
  jjp (vi (i:Nat)) (.sl 3 (c.map jy))=some (vb (KC p (c.drop i)),[]):=by
 refine upto ?_ ?_
 ·intro p _ _;rw [jrf,List.drop_length];have:KC p []=true:=by cases p<;>rfl
  rw [this];simp only [jf]
 ·intro i hi ih p hp hq;have hlt:(i:Int) < ((c.length:Nat):Int):=by omega
  have h5:=jz hi (by show c.length<=9223372036854775807;omega)
  have e1:=jdw c[i].2 (hz _ (List.getElem_mem hi)).wf (hz _ (List.getElem_mem hi));have ix:=jb (k:=3) (f:=jy) hi;have ad:zU (.elt (jy c[i]) 0) 1=some (.elt (jy c[i]) 1):=rfl;have ld:jF 2 (.elt (jy c[i]) 1)=some (tm c[i].2):=rfl;rw [jrf,jl hi];cases ha:zy c[i].2 with
  | false=>
   rw [ha] at e1;have:KC p (c[i]::c.drop (i+1))=false:=by cases p<;>rw [KC,ha]<;>rfl
   rw [this];simp only [jf,hlt,ix,ad,ld,e1]
  | true=>
   rw [ha] at e1;have ih1:=ih (some c[i]) (by simp) (λq hq=>by cases hq;exact ⟨by simpa using hi,rfl⟩);cases p with
   | none=>
    have h0:i=0:=hp.1 rfl;have hg:¬(0:Int) < (i:Int):=by omega
    rw [KC,ha,Bool.true_and,<-ih1];simp only [jf,hlt,ix,ad,ld,e1,hg,h5]
   | some q=>
    obtain ⟨hq1,hq2⟩:=hq q rfl;have hi0:¬i=0:=λh=>by have:=hp.2 h;cases this
    have hg:(0:Int) < (i:Int):=by omega
    have c1:ck ((i:Int) - 1)=some (vi ((i - 1:Nat):Int)):=by rw [show (i:Int) - 1=((i - 1:Nat):Int) by omega,jE (by omega) (by omega)]
    have ix2:=jb (k:=3) (f:=jy) hq1;rw [hq2] at ix2;have hqz:Tz q.2:=by rw [<-hq2];exact hz _ (List.getElem_mem hq1)
    have e2:=JE q c[i] hqz (hz _ (List.getElem_mem hi));rw [KC,ha,Bool.true_and];by_cases hc:cmpL q c[i] < 0
    ·have hc':¬(0:Int)<=cmpL q c[i]:=by omega
     rw [decide_eq_true hc,Bool.true_and,<-ih1];generalize cmpL q c[i]=d at *;simp only [jf,hlt,ix,ad,ld,yg,e1,hg,c1,ix2,e2,hc',h5]
    ·have hc':(0:Int)<=cmpL q c[i]:=by omega
     rw [decide_eq_false hc];generalize cmpL q c[i]=d at *;simp only [jf,hlt,ix,ad,ld,yg,e1,hg,c1,ix2,e2,hc',Bool.false_and]
theorem yO (c:j7) (hl:c.length<=1048576) (hz:∀l∈c,Tz l.2):G 15 [cm c]=some (vb (jM c),[]):=by
 have key:=jhU c hl hz 0 (Nat.zero_le _) none (by simp) (λq h=>by cases h);rw [List.drop_zero] at key;simp only [Int.natCast_zero] at key;rw [g15,<-jed];by_cases h8:c.length<=8
 ·have h8':¬(8:Int) < ((c.length:Nat):Int):=by omega
  rw [decide_eq_true h8,Bool.and_true];simp only [jf,h8',key]
 ·have h8':(8:Int) < ((c.length:Nat):Int):=by omega
  rw [decide_eq_false h8,Bool.and_false];simp only [jf,h8']
theorem js6 (l:List (List UInt8)) (n:List UInt8):(vnA l n).length<=l.length+1:=by
 unfold vnA;split
 ·omega
 ·simp
theorem jqm:∀(t:T) (l:List (List UInt8)),(Yh l t).length<=l.length+nodes t:=by
 refine T.ind λt ih l=> ?_;have hn:=jN t;rw [jql];split
 ·have:=js6 l t.name;omega
 ·have key:∀us:List T,(∀u∈us,u∈t.args)-> ∀l:List (List UInt8),(QG l us).length<=l.length+jA us:=by
   intro us;induction us with
   | nil=>intro _ l;simp [QG,jA]
   | cons u us ih2=>
    intro hu l;have h1:=ih u (hu u (by simp)) l;have h2:=ih2 (λv hv=>hu v (by simp [hv])) (Yh l u);rw [QG,jA];omega
  have:=key t.args (λ_ h=>h) l;omega
abbrev Eqs:=List (T × T)
def jez:jk->Bool
 | []=>true
 | [_]=>true
 | p::q::s=>kQ p.1 q.1 && jez (q::s)
noncomputable def kC (s:jk):Bool:=decide (s.length<=12) && (jez s && s.all λq=>ju q.1 && (kD q.2 && !dq q.2.name q.1))
def jq6 (s u:jk):jk:=jR (s.map (λq=>(q.1,sub u q.2))++u.filter λq=>(look s q.1).isNone)
def jfZ (x y:T):List UInt8 × T:=if ju x.name=false\/(ju y.name=true/\kQ x.name y.name=true) then (y.name,x) else (x.name,y)
noncomputable def juQ (s:jk) (l r:T) (rest:Eqs):Option (jk × Eqs):=
 if ko (sub s l)=false\/ko (sub s r)=false then none
 else if dq (sub s l) (sub s r) then some (s,rest)
 else if ju (sub s l).name=true\/ju (sub s r).name=true then
  (if (jfZ (sub s l) (sub s r)).1∈yd (jfZ (sub s l) (sub s r)).2\/kC [jfZ (sub s l) (sub s r)]=false\/kC (jq6 s [jfZ (sub s l) (sub s r)])=false then none else some (jq6 s [jfZ (sub s l) (sub s r)],rest))
 else if (sub s l).name=(sub s r).name/\(sub s l).args.length=(sub s r).args.length then some (s,(sub s l).args.zip (sub s r).args++rest) else none
noncomputable def jr0:Nat->jk->Eqs->Option (Option jk)
 | _,s,[]=>some (some s)
 | 0,_,_::_=>none
 | k+1,s,p::rest=>(match juQ s p.1 p.2 rest with|none=>some none|some q=>jr0 k q.1 q.2)
def Exx (t:T):Prop:=(zt t=true\/(t.name = [61]/\t.args.length=2/\ ∀u∈t.args,zt u=true))/\nodes t<=31
def IdS (s:jk):Prop:=∀q∈s,∀x∈yd q.2,look s x=none
def jw2 (s:jk) (es:Eqs):Prop:=kC s=true/\IdS s/\ ∀p∈es,Exx p.1/\Exx p.2
theorem kY {s:jk} (h:kC s=true):s.length<=12/\jez s=true/\ ∀q∈s,ju q.1=true/\kD q.2=true/\q.2.name≠q.1:=by
 unfold kC at h;rw [Bool.and_eq_true,decide_eq_true_eq,Bool.and_eq_true,List.all_eq_true] at h;refine ⟨h.1,h.2.1,λq hq=> ?_⟩;have:=h.2.2 q hq;rw [Bool.and_eq_true,Bool.and_eq_true,Bool.not_eq_true'] at this;exact ⟨this.1,this.2.1,λe=>by rw [e,Kd] at this;exact absurd this.2.2 (by decide)⟩
theorem ZH {t:T} (h:kD t=true):zt t=true:=by
 unfold kD at h;rw [Bool.and_eq_true] at h;exact h.2
theorem jcT {x:List UInt8} :∀ {ts:List T},x∈kO ts↔ ∃t∈ts,x∈yd t
 | []=>by simp [kO]
 | t::ts=>by rw [kO,List.mem_append,jcT];simp
theorem jct {s:jk} {n:List UInt8} {t:T} {q:List UInt8 × T} :q∈Jo s n t↔q∈s\/q=(n,t):=by
 unfold Jo;have e:=List.takeWhile_append_dropWhile (p:=λp:List UInt8 × T=>kQ p.1 n) (l:=s);constructor
 ·intro h;rcases List.mem_append.1 h with h|h
  ·left;rw [<-e];exact List.mem_append_left _ h
  ·rcases List.mem_cons.1 h with h|h
   ·exact Or.inr h
   ·left;rw [<-e];exact List.mem_append_right _ h
 ·rintro (h|h)
  ·rw [<-e] at h;rcases List.mem_append.1 h with h|h
   ·exact List.mem_append_left _ h
   ·exact List.mem_append_right _ (List.mem_cons_of_mem _ h)
  ·rw [h];exact List.mem_append_right _ (List.mem_cons_self ..)
theorem jow (s:jk) (n:List UInt8) (t:T):(Jo s n t).length=s.length+1:=by
 unfold Jo;have e:=congrArg List.length (List.takeWhile_append_dropWhile (p:=λp:List UInt8 × T=>kQ p.1 n) (l:=s));rw [List.length_append] at e;rw [List.length_append,List.length_cons];omega
theorem yt:∀(m s:jk),(∀q∈m,q.2.name≠q.1)->(m.foldl (λs p=>Jn s p.1 p.2) s).length=s.length+m.length/\ ∀q,q∈m.foldl (λs p=>Jn s p.1 p.2) s↔q∈s\/q∈m
 | [],s,_=>⟨rfl,λq=>by simp⟩
 | p::m,s,h=>by
  rw [List.foldl_cons];have e:Jn s p.1 p.2=Jo s p.1 p.2:=if_neg (h p (by simp));obtain ⟨h1,h2⟩:=yt m (Jn s p.1 p.2) λq hq=>h q (by simp [hq]);refine ⟨by rw [h1,e,jow,List.length_cons];omega,λq=> ?_⟩;rw [h2,e,jct,List.mem_cons,or_assoc]
def mz (s:jk):Eqs->Nat
 | []=>0
 | p::r=>nodes (sub s p.1)+nodes (sub s p.2)+mz s r
theorem Exx.sub {s:jk} (hs:kC s=true) {t:T} (h:Exx t):zt (sub s t)=true\/((sub s t).name = [61]/\(sub s t).args.length=2/\ ∀u∈(sub s t).args,zt u=true):=by
 obtain ⟨_,_,hv⟩:=kY hs;have ho:∀q∈s,zt q.2=true:=λq hq=>(ZH (hv q hq).2.1);rcases h.1 with h|⟨h1,h2,h3⟩
 ·exact Or.inl (QT ho t h)
 ·have hvn:ju t.name=false:=by rw [h1];decide
  right;rw [yh hvn];refine ⟨h1,by show (t.args.map _).length=2;rw [List.length_map,h2],λu hu=> ?_⟩;obtain ⟨a,ha,rfl⟩:=List.mem_map.1 hu;exact QT ho a (h3 a ha)
theorem jas {t:T} (h:ko t=true):nodes t<=30:=by
 simp only [ko,Bool.and_eq_true,decide_eq_true_eq] at h;exact h.1
def Bx (t:T):Prop:=(t.name = [61]/\t.args.length=2/\ ∀u∈t.args,zt u=true)\/(zQ t.name=true/\zt t=true)
theorem Bx.rx {t:T} (h:Bx t):Rx' t:=h.elim (λh=>Or.inr ⟨h.1,h.2.2⟩) λh=>Or.inl h.2
theorem Bx.ax {t:T} (h:Bx t):zt t=true\/(t.name = [61]/\t.args.length=2/\ ∀u∈t.args,zt u=true):=h.elim Or.inr λh=>Or.inl h.2
theorem Bx.args {t:T} (h:Bx t):∀u∈t.args,zt u=true:=h.elim (λh=>h.2.2) λh=>zz h.2
theorem QU {n:List UInt8} (h:zQ n=true):ju n=false:=by
 cases hv:ju n with
 | false=>rfl
 | true=>rw [ji8 hv] at h;cases h
theorem Bx.nv {t:T} (h:Bx t):ju t.name=false:=h.elim (λh=>by rw [h.1];decide) λh=>QU h.1
theorem jtx {t:T} (h:t.args.length=2):t.args = [jex t,jh8 t]:=by
 obtain ⟨n,us⟩:=t
 match us,h with
 | [a,b],_=>rfl
theorem JQ {t:T} :zy t=true↔Bx t/\ko t=true:=by
 unfold zy Bx;by_cases he:t.name = [61]
 ·rw [if_pos he];unfold jgd;rw [Bool.and_eq_true,Bool.and_eq_true,Bool.and_eq_true,decide_eq_true_eq];constructor
  ·rintro ⟨h1,h2,h3,h4⟩;refine ⟨Or.inl ⟨he,h1,λu hu=> ?_⟩,h2⟩;rw [jtx h1] at hu;simp only [List.mem_cons,List.not_mem_nil,or_false] at hu;rcases hu with rfl|rfl
   ·exact h3
   ·exact h4
  ·rintro ⟨h|h,h2⟩
   ·obtain ⟨_,_,ma,mb⟩:=Qv h.2.1;exact ⟨h.2.1,h2,h.2.2 _ ma,h.2.2 _ mb⟩
   ·rw [he] at h;exact absurd h.1 (by decide)
 ·rw [if_neg he];unfold kD;rw [Bool.and_eq_true,Bool.and_eq_true];constructor
  ·rintro ⟨h1,h2,h3⟩;exact ⟨Or.inr ⟨h1,h3⟩,h2⟩
  ·rintro ⟨h|h,h2⟩
   ·exact absurd h.1 he
   ·exact ⟨h.1,h2,h.2⟩
theorem Bx.atom {t:T} (h:Bx t):zy t=ko t:=by
 cases hs:ko t with
 | true=>exact JQ.2 ⟨h,hs⟩
 | false=>
  cases ha:zy t with
  | false=>rfl
  | true=>rw [(JQ.1 ha).2] at hs;cases hs
theorem Bx.tsz {t:T} (h:Bx t):tsz t<=10 * nodes t:=by
 rcases h with h|h
 ·rw [jY,jN,h.1,h.2.1];have:=jku h.2.2;simp only [List.length_cons,List.length_nil];omega
 ·exact Yg t h.2
theorem Bx.tz {t:T} (h:Bx t) (hn:nodes t<=100000):Tz t:=by have:=h.tsz;unfold Tz;omega
theorem Bx.sub {s:jk} (hs:kC s=true) {t:T} (h:Bx t):Bx (sub s t):=by
 obtain ⟨_,_,hv⟩:=kY hs;have ho:∀q∈s,zt q.2=true:=λq hq=>ZH (hv q hq).2.1;have hn:=h.nv;rcases h with h|h
 ·left;rw [Zk hn,Zj hn,List.length_map];refine ⟨h.1,h.2.1,λu hu=> ?_⟩;obtain ⟨a,ha,rfl⟩:=List.mem_map.1 hu;exact QT ho a (h.2.2 a ha)
 ·right;rw [Zk hn];exact ⟨h.1,QT ho t h.2⟩
theorem Qm {s:jk} (hs:kC s=true):∀q∈s,nodes q.2<=30:=λq hq=>by
 have:=((kY hs).2.2 q hq).2.1;unfold kD at this;rw [Bool.and_eq_true] at this;exact jas this.1
theorem jeg {s:jk} (hs:kC s=true):∀q∈s,zt q.2=true:=λq hq=>ZH ((kY hs).2.2 q hq).2.1
mutual
theorem jdX (f:List UInt8->List UInt8):∀t:T,nodes (zX f t)<=nodes t
 | .mk n us=>by
  rw [zX];split
  ·have:=jdE (.mk n us);show 1+0<=_;omega
  ·have:=jcC f us;simp only [nodes];omega
theorem jcC (f:List UInt8->List UInt8):∀ts:List T,jA (kX f ts)<=jA ts
 | []=>Nat.le_refl _
 | t::ts=>by have:=jdX f t;have:=jcC f ts;simp only [kX,jA];omega
end
mutual
theorem jqv (f:List UInt8->List UInt8):∀t:T,qn (zX f t)<=qn t
 | .mk n us=>by
  rw [zX];split
  ·rw [jby (.mk n us)];show 1+0<=_;omega
  ·have:=jhm f us;simp only [qn];omega
theorem jhm (f:List UInt8->List UInt8):∀ts:List T,KS (kX f ts)<=KS ts
 | []=>Nat.le_refl _
 | t::ts=>by have:=jqv f t;have:=jhm f ts;simp only [kX,KS];omega
end
theorem jcB {f:List UInt8->List UInt8} {t:T} (h:ju t.name=false):(zX f t).name=t.name:=by rw [jfg,h,if_neg Bool.false_ne_true];rfl
theorem jhl {f:List UInt8->List UInt8} {t:T} (h:ju t.name=false):(zX f t).args=t.args.map (zX f):=by rw [jfg,h,if_neg Bool.false_ne_true];rfl
theorem joA {f:List UInt8->List UInt8} (hf:∀n,ju n=true->ju (f n)=true):∀t:T,zt t=true->zt (zX f t)=true:=by
 refine T.ind λt ih h=> ?_;cases hv:ju t.name with
 | true=>rw [jfg,hv,if_pos rfl];exact jn2 _ (hf _ hv)
 | false=>
  have hk:=h;rw [zS,hv,if_neg Bool.false_ne_true,Bool.and_eq_true,Bool.and_eq_true,decide_eq_true_eq] at h;rw [zS,jcB hv,jhl hv,hv,if_neg Bool.false_ne_true,Bool.and_eq_true,Bool.and_eq_true,decide_eq_true_eq,List.length_map,yD,List.all_eq_true];refine ⟨h.1,h.2.1,λu hu=> ?_⟩;obtain ⟨a,ha,rfl⟩:=List.mem_map.1 hu;exact ih a ha (zz hk a ha)
theorem Bx.ren {f:List UInt8->List UInt8} (hf:∀n,ju n=true->ju (f n)=true) {t:T} (h:Bx t):Bx (zX f t):=by
 have hn:=h.nv;rcases h with h|h
 ·left;rw [jcB hn,jhl hn,List.length_map];refine ⟨h.1,h.2.1,λu hu=> ?_⟩;obtain ⟨a,ha,rfl⟩:=List.mem_map.1 hu;exact joA hf a (h.2.2 a ha)
 ·right;rw [jcB hn];exact ⟨h.1,joA hf t h.2⟩
theorem Qz:∀d:Nat,d < 10->zY (UInt8.ofNat (48+d))=true:=by decide
theorem KT {u:Nat} (h:u < 10):Lib.decDigits u = [UInt8.ofNat (48+u)]:=Lib.decDigits_one h
theorem jbz {u:Nat} (h:¬u < 10):Lib.decDigits u=Lib.decDigits (u / 10)++[UInt8.ofNat (48+u % 10)]:=by rw [Lib.decDigits,dif_neg h]
theorem qA:∀(k u:Nat),u < 10 ^ (k+1)->(Lib.decDigits u).all zY=true/\(Lib.decDigits u).length<=k+1
 | 0,u,h=>by rw [KT (by omega)];exact ⟨by rw [List.all_cons,Qz u (by omega),List.all_nil];rfl,by simp⟩
 | k+1,u,h=>by
  by_cases hu:u < 10
  ·rw [KT hu];exact ⟨by rw [List.all_cons,Qz u hu,List.all_nil];rfl,by simp⟩
  ·obtain ⟨h1,h2⟩:=qA k (u / 10) (by rw [Nat.pow_succ] at h;omega)
   rw [jbz hu,List.all_append,h1,List.length_append];exact ⟨by rw [List.all_cons,Qz (u % 10) (by omega),List.all_nil];rfl,by simp only [List.length_cons,List.length_nil];omega⟩
theorem jnY {p:UInt8} (hp:upc p=true) {i:Nat} (hi:i < 1000):ju (jnX p i)=true:=by
 obtain ⟨h1,h2⟩:=qA 2 i (by omega);show (upc p && ((Lib.decDigits i).all zY && decide ((Lib.decDigits i).length<=3)))=true;rw [hp,h1,decide_eq_true (by omega)];rfl
theorem jqR {l:List (List UInt8)} {n x:List UInt8} :x∈vnA l n↔x∈l\/x=n:=by
 unfold vnA;split
 ·rename_i h;rw [List.contains_iff_mem] at h;exact ⟨Or.inl,λh'=>h'.elim id λe=>e ▸ h⟩
 ·simp
theorem jmu {l:List (List UInt8)} {n:List UInt8} (h:l.Nodup):(vnA l n).Nodup:=by
 unfold vnA;split
 ·exact h
 ·rename_i hc;rw [List.contains_iff_mem] at hc;refine List.nodup_append.2 ⟨h,by simp,λa ha b hb=> ?_⟩;simp only [List.mem_singleton] at hb;rintro rfl;exact hc (hb ▸ ha)
mutual
theorem jgT:∀(t:T) (l:List (List UInt8)) (x:List UInt8),x∈Yh l t↔x∈l\/x∈yd t
 | .mk n us,l,x=>by
  rw [Yh,yd];split
  ·rw [jqR];simp
  ·exact jgS us l x
theorem jgS:∀(ts:List T) (l:List (List UInt8)) (x:List UInt8),x∈QG l ts↔x∈l\/x∈kO ts
 | [],l,x=>by simp [QG,kO]
 | t::ts,l,x=>by rw [QG,kO,jgS ts,jgT t,List.mem_append,or_assoc]
end
mutual
theorem jcg:∀(t:T) {l:List (List UInt8)},l.Nodup->(Yh l t).Nodup
 | .mk n us,l,h=>by
  rw [Yh];split
  ·exact jmu h
  ·exact jcf us h
theorem jcf:∀(ts:List T) {l:List (List UInt8)},l.Nodup->(QG l ts).Nodup
 | [],l,h=>h
 | t::ts,l,h=>by rw [QG];exact jcf ts (jcg t h)
end
theorem jcb:∀(c:j7) (l:List (List UInt8)) (x:List UInt8),x∈c.foldl (λl x=>Yh l x.2) l↔x∈l\/ ∃y∈c,x∈yd y.2
 | [],l,x=>by simp
 | y::c,l,x=>by rw [List.foldl_cons,jcb c,jgT,or_assoc];simp
theorem Kj {c:j7} {x:List UInt8} :x∈zj c↔ ∃y∈c,x∈yd y.2:=by unfold zj;rw [jcb];simp
theorem je1 (c:j7):(zj c).Nodup:=by
 have:∀(c:j7) (l:List (List UInt8)),l.Nodup->(c.foldl (λl x=>Yh l x.2) l).Nodup:=by
  intro c;induction c with
  | nil=>intro l h;exact h
  | cons y c ih=>intro l h;exact ih _ (jcg y.2 h)
 exact this c [] List.nodup_nil
def CN (c:j7):Prop:=c.length<=8/\ ∀l∈c,Bx l.2/\nodes l.2<=30
theorem jiI {c:j7} (h:CN c):(zj c).length<=240:=by
 have:∀(c:j7) (l:List (List UInt8)),(∀y∈c,nodes y.2<=30)->(c.foldl (λl x=>Yh l x.2) l).length<=l.length+30 * c.length:=by
  intro c;induction c with
  | nil=>intro l _;simp
  | cons y c ih=>
   intro l h;have h1:=jqm y.2 l;have h2:=h y (by simp);have h3:=ih (Yh l y.2) λz hz=>h z (by simp [hz]);rw [List.foldl_cons,List.length_cons];omega
 have h2:=this c [] λy hy=>(h.2 y hy).2;have h3:=h.1;rw [List.length_nil] at h2;unfold zj;omega
theorem jk2 {p:UInt8} (hp:upc p=true) {l:List (List UInt8)} (hl:l.length<=1000) {n:List UInt8} (hn:ju n=true):ju (Q4 p l n)=true:=by
 unfold Q4;split
 ·rename_i i h;have:=(List.findIdx?_eq_some_iff_getElem.1 h).1;exact jnY hp (by omega)
 ·exact hn
theorem jbL {α:Type} (c:α->α->Int) (l:List α) (x:α):(qo c l x).length<=l.length+1:=by
 unfold qo;split
 ·omega
 ·have:=congrArg List.length (List.takeWhile_append_dropWhile (p:=λa=>decide (c a x < 0)) (l:=l));rw [List.length_append] at this;rw [List.length_append,List.length_cons];omega
theorem J1 {α:Type} (c:α->α->Int) (l:List α):(kz c l).length<=l.length:=by
 have:∀(l m:List α),(l.foldl (qo c) m).length<=m.length+l.length:=by
  intro l;induction l with
  | nil=>intro m;simp
  | cons x l ih=>
   intro m;have h1:=jbL c m x;have h2:=ih (qo c m x);rw [List.foldl_cons,List.length_cons];omega
 have:=this l [];simpa [kz] using this
theorem qP {l:j7} {x:Lt} :x∈kz cmpL l↔x∈l:=(Zz z7 l).2 x
theorem CN.make {l:j7} (hl:l.length<=8) (h:∀x∈l,Bx x.2/\nodes x.2<=30):CN (kz cmpL l):=⟨by have:=J1 cmpL l;omega,λx hx=>h x (qP.1 hx)⟩
theorem CN.ren {p:UInt8} (hp:upc p=true) {c:j7} (h:CN c):∀x∈c.map (λl=>(l.1,zX (Q4 p (zj c)) l.2)),Bx x.2/\nodes x.2<=30:=by
 intro x hx;obtain ⟨l,hl,rfl⟩:=List.mem_map.1 hx;have hn:=jiI h;have:=jdX (Q4 p (zj c)) l.2;have:=(h.2 l hl).2;exact ⟨(h.2 l hl).1.ren λn hn=>jk2 hp (by omega) hn,by show nodes (zX (Q4 p (zj c)) l.2)<=30;omega⟩
theorem CN.renC {p:UInt8} (hp:upc p=true) {c:j7} (h:CN c):CN (renC p c):=CN.make (by rw [List.length_map];exact h.1) (h.ren hp)
theorem CN.normF:∀(k:Nat) {c:j7},CN c->CN (normF k c)
 | 0,c,h=>h
 | k+1,c,h=>by
  rw [Go.Proofs.YtdbgbieenhcldaaGreat.normF];split
  ·exact h
  ·exact CN.normF k (CN.renC (by decide) h)
theorem CN.normC {c:j7} (h:CN c):CN (normC c):=CN.normF 10 h
theorem kr {c:j7} (h:jM c=true):CN c/\Asc cmpL c/\(∀l∈c,zy l.2=true):=by
 unfold jM at h;rw [Bool.and_eq_true,Bool.and_eq_true,List.all_eq_true,decide_eq_true_eq,jbq] at h;exact ⟨⟨h.2.2,λl hl=>⟨(JQ.1 (h.1 l hl)).1,jas (JQ.1 (h.1 l hl)).2⟩⟩,h.2.1,h.1⟩
theorem CN.tz {c:j7} (h:CN c):∀l∈c,Tz l.2:=λl hl=>(h.2 l hl).1.tz (by have:=(h.2 l hl).2;omega)
theorem CN.rx {c:j7} (h:CN c):∀l∈c,Rx' l.2:=λl hl=>(h.2 l hl).1.rx
theorem Rx'.va {t:T} (h:Rx' t) (hv:ju t.name=true):t.args = []:=h.elim (λh=>Zm h hv) λh=>by rw [h.1] at hv;exact absurd hv (by decide)
def jvJ (d:j7):j7:=d.map λl=>(l.1,zX (Q4 89 (zj d)) l.2)
def ja2 (c:j7):Bool:=jM c && jj8 c
open Classical in
noncomputable def jwo (a b:T):Option jk:=if h:∃r k,jr0 k [] [(a,b)]=some r then h.choose else none
noncomputable def jbp (s:jk) (l:j7):Option j7:=if (l.all λx=>ko (sub s x.2)) && jM (kz cmpL (l.map λx=>(x.1,sub s x.2))) then some (kz cmpL (l.map λx=>(x.1,sub s x.2))) else none
noncomputable def jwj (s:jk) (l:j7):Option j7:=(jbp s l).bind λc=>if ja2 (normC c) then some (normC c) else none
abbrev cz:A:= .agg [.sl 3 []]
def jiM (o:Option j7):Option Out:=match o with|some c=>some (.tup [cm c,vb true],[])|none=>some (.tup [cz,vb false],[])
def atI:List Int->T->Option T
 | [],t=>some t
 | i::p,t=>if 0<=i/\i < (t.args.length:Int) then atI p (t.args.getD i.toNat (.mk [] [])) else none
def EXB (t:T):Prop:=EX false t/\Bx t
open Go Go.RowKit Go.Proofs.YtdbgbieenhcldaaGreat.Abs Go.Sort
section
variable {α:Type} {c:α->α->Int}
theorem jg4 {β γ:Type} (f:β->β->γ) (ys:List β):∀(xs:List β) (i j:Nat) (x y:β),xs[i]? = some x->ys[j]? = some y->(xs.flatMap λx=>ys.map λy=>f x y)[i * ys.length+j]? = some (f x y)
 | [],i,j,x,y,h,_=>by simp at h
 | a::xs,i,j,x,y,h,hy=>by
  have hj:=(List.getElem?_eq_some_iff.1 hy).1;rw [List.flatMap_cons];cases i with
  | zero=>simp at h;subst h;rw [Nat.zero_mul,Nat.zero_add,List.getElem?_append_left (by simpa using hj),List.getElem?_map,hy];rfl
  | succ i=>
   rw [List.getElem?_append_right (by simp [Nat.add_mul];omega)]
   have:(i+1) * ys.length+j - (ys.map λy=>f a y).length=i * ys.length+j:=by simp [Nat.add_mul];omega
   rw [this];exact jg4 f ys xs i j x y (by simpa using h) hy
theorem extract_all {β:Type} (e:Array β) {n:Nat} (h:e.size=n):e.extract 0 n=e:=by subst h;simp
theorem Law3.swo (h:Law3 c) {β:Type} (g:β->α) {lt:β->β->Bool} (hl:∀i j,lt i j=decide (c (g i) (g j) < 0)):SWO lt:=by
 refine ⟨λx=> ?_,λx y z h1 h2=> ?_,λx y z h1 h2=> ?_⟩
 ·rw [hl,(h.zero _ _).2 rfl];rfl
 ·rw [hl,decide_eq_true_eq] at *;exact h.trans _ _ _ h1 h2
 ·rw [hl,decide_eq_false_iff_not] at *;intro h3;have f1:=h.flip (g x) (g y);have f2:=h.flip (g y) (g z);by_cases e1:c (g x) (g y)=0
  ·rw [(h.zero _ _).1 e1] at h3;exact h2 h3
  by_cases e2:c (g y) (g z)=0
  ·rw [<-(h.zero _ _).1 e2] at h3;exact h1 h3
  have:=h.trans (g z) (g y) (g x) (by omega) (by omega);have f3:=h.flip (g x) (g z);omega
theorem jfk {γ:Type} {c:γ->γ->Int} (hc:Law3 c) (f:α->γ) (enc:α->List A) (k:Nat) (l:List α) (hl:l.length < 4611686018427387904):∃s:List α,s.Perm l/\s.Pairwise (λa b=>¬c (f b) (f a) < 0)/\jcJ k (l.map enc) (l.flatMap λx=>l.map λy=>c (f x) (f y))=some (.top,[.sl k (s.map enc)]):=by
 cases l with
 | nil=>exact ⟨[],List.Perm.refl _,List.Pairwise.nil,rfl⟩
 | cons a l'=>
  generalize hcs:((a::l').flatMap λx=>(a::l').map λy=>c (f x) (f y))=cs;rw [List.map_cons];have hN:(l'.map enc).length+1=(a::l').length:=by simp
  let g:Fin ((l'.map enc).length+1)->α:=λi=>(a::l')[i.val]'(by rw [<-hN];exact i.isLt)
  have hg:∀i:Fin ((l'.map enc).length+1),(a::l')[i.val]? = some (g i):=λi=>List.getElem?_eq_getElem _;have hT:∀i j,ltO (jaz ((l'.map enc).length+1) cs) i j=decide (c (f (g i)) (f (g j)) < 0):=λi j=>by
   have:=jg4 (λx y=>c (f x) (f y)) (a::l') (a::l') i.val j.val _ _ (hg i) (hg j);rw [hcs,<-hN] at this;unfold ltO jaz;rw [List.getD_eq_getElem?_getD,this];rfl
  have hS:=hc.swo (λi=>f (g i)) hT;have hsz:(l'.map enc).length+1 < 4611686018427387904:=by rw [hN];exact hl
  generalize hd:(Array.ofFn (n:=(l'.map enc).length+1) id)=d;have hds:d.size=(l'.map enc).length+1:=by rw [<-hd];simp
  obtain ⟨hp,hs⟩:=pdq_sorts (ltO (jaz ((l'.map enc).length+1) cs)) hS d 0 ((l'.map enc).length+1) (Lib.bitLen ((l'.map enc).length+1)) true true (Nat.zero_le _) (by omega) (Or.inl rfl);have hrow:jcJ k (enc a::l'.map enc) cs=some (.top,[.sl k ((pdq (ltO (jaz ((l'.map enc).length+1) cs)) d 0 ((l'.map enc).length+1) (Lib.bitLen ((l'.map enc).length+1)) true true).toList.map λi=>(enc a::l'.map enc).getD i.val [])]):=by
   unfold jcJ;simp only;rw [if_pos ⟨hS,hsz⟩,hd]
  rw [hrow];generalize pdq (ltO (jaz ((l'.map enc).length+1) cs)) d 0 ((l'.map enc).length+1) (Lib.bitLen ((l'.map enc).length+1)) true true=D at *;obtain ⟨p1,_,p3⟩:=hp;rw [extract_all D (by omega),extract_all d hds] at p3;refine ⟨D.toList.map g,?_,?_,?_⟩
  ·have h1:(D.toList.map g).Perm (d.toList.map g):=p3.map g;have h2:d.toList.map g=a::l':=by
    refine List.ext_getElem? λi=> ?_;rw [<-hd];by_cases hi:i < (l'.map enc).length+1
    ·rw [List.getElem?_map,Array.getElem?_toList,Array.getElem?_eq_getElem (by simpa using hi)];simp only [Array.getElem_ofFn,Option.map_some,id];exact (hg ⟨i,hi⟩).symm
    ·rw [List.getElem?_eq_none (by simp at hi ⊢;omega),List.getElem?_eq_none (by simp at hi ⊢;omega)]
   rw [h2] at h1;exact h1
  ·rw [List.pairwise_map];rw [List.pairwise_iff_getElem];intro i j hi hj hij;have hD:D.size=(l'.map enc).length+1:=by omega
   rw [Array.length_toList] at hi hj;have:=hs i j (Nat.zero_le _) hij (by omega);rw [getElem!_pos D i hi,getElem!_pos D j hj,hT,decide_eq_false_iff_not] at this;simpa using this
  ·congr 3;rw [List.map_map];refine congrArg (A.sl k) (List.map_congr_left λi _=> ?_);rw [<-List.map_cons,List.getD_eq_getElem?_getD,List.getElem?_map,hg i];rfl
end
theorem jbr {β:Type} (f:β->FuncId × List A) (r:β->Int):∀qs:List β,(∀b∈qs,K.pureF (f b).1=true/\G (f b).1 (f b).2=some (vi (r b),[]))->askAll K (MM K) (qs.map f)=some (qs.map λb=>(vi (r b),[]))
 | [],_=>rfl
 | b::qs,h=>by
  have ih:=jbr f r qs λb' hb=>h b' (by simp [hb]);obtain ⟨h1,h2⟩:=h b (by simp);rw [List.map_cons,List.map_cons];show (if K.pureF (f b).1 then (MM K (.call (f b).1 (f b).2)).bind λo=>(askAll K (MM K) (qs.map f)).bind λos=>some (o::os) else none)=_;have h2:MM K (.call (f b).1 (f b).2)=some (vi (r b),[]):=h2;rw [h1,if_pos rfl,h2,ih];rfl
theorem jdI {β:Type} (r:β->Int):∀qs:List β,jal (qs.map λb=>(vi (r b),[]))=some (qs.map r)
 | []=>rfl
 | b::qs=>by
  rw [List.map_cons,List.map_cons,jal,jdI r qs];rfl
theorem jgf {α γ:Type} {c:γ->γ->Int} (hc:Law3 c) (f:α->γ) (enc:α->List A) (k:Nat) (g:FuncId) (hp:K.pureF g=true) (l:List α) (hl:l.length < 4611686018427387904) (h:∀x∈l,∀y∈l,G g [.agg (enc x),.agg (enc y)]=some (vi (c (f x) (f y)),[])):∃s:List α,s.Perm l/\s.Pairwise (λa b=>¬c (f b) (f a) < 0)/\extRun K (MM K) (sfE k) [V.row 0,V.fn g []] [.row k (l.map enc)]=some (.top,[.sl k (s.map enc)]):=by
 obtain ⟨s,h1,h2,h3⟩:=jfk hc f enc k l hl;refine ⟨s,h1,h2,?_⟩;have hq:jhy [V.row 0,V.fn g []] [.row k (l.map enc)]=some ((l.flatMap λx=>l.map λy=>(x,y)).map λq=>(g,[A.agg (enc q.1),A.agg (enc q.2)])):=by
  show some ((l.map enc).flatMap λx=>(l.map enc).map λy=>(g,[A.agg x,A.agg y]++[]))=_;congr 1;rw [List.flatMap_map,List.map_flatMap];refine congrArg (λh=>l.flatMap h) (funext λx=> ?_);rw [List.map_map,List.map_map];rfl
 have ha:=jbr (λq:α × α=>(g,[A.agg (enc q.1),A.agg (enc q.2)])) (λq=>c (f q.1) (f q.2)) (l.flatMap λx=>l.map λy=>(x,y)) λq hq=>by
  obtain ⟨x,hx,hq⟩:=List.mem_flatMap.1 hq;obtain ⟨y,hy,rfl⟩:=List.mem_map.1 hq;exact ⟨hp,h x hx y hy⟩
 have hc':((l.flatMap λx=>l.map λy=>(x,y)).map λq=>c (f q.1) (f q.2))=l.flatMap λx=>l.map λy=>c (f x) (f y):=by
  rw [List.map_flatMap];refine congrArg (λh=>l.flatMap h) (funext λx=> ?_);rw [List.map_map];rfl
 have ho:=jdI (λq:α × α=>c (f q.1) (f q.2)) (l.flatMap λx=>l.map λy=>(x,y));rw [hc'] at ho;show (jhy [V.row 0,V.fn g []] [.row k (l.map enc)]).bind _=_;rw [hq,Option.bind_some,ha,Option.bind_some];show (if Nat.beq k k then (jal _).bind λcs=>jcJ k (l.map enc) cs else none)=_;rw [Nat.beq_refl,if_pos rfl,ho];exact h3
theorem jrW:∀d:Nat,d < 10->Kl (sv [48,49,50,51,52,53,54,55,56,57]) (some (vi (d:Nat))) (some (vi ((d+1:Nat):Int)))=some (sv [UInt8.ofNat (48+d)])
 | 0,_=>rfl|1,_=>rfl|2,_=>rfl|3,_=>rfl|4,_=>rfl|5,_=>rfl|6,_=>rfl|7,_=>rfl|8,_=>rfl|9,_=>rfl
theorem jnL:∀n:Nat,n<=1000000->G 32 [vi (n:Nat)]=some (sv (Lib.decDigits n),[]):=by
 intro n;induction n using Nat.strongRecOn with
 | ind n ih=>
  intro hn;have h0:¬((n:Nat):Int) < 0:=by omega
  rw [g32];by_cases h:n < 10
  ·have h1:((n:Nat):Int) < 10:=by omega
   have h2:ck ((n:Int)+1)=some (vi ((n+1:Nat):Int)):=jE (by omega) (by omega);have h3:=jrW n h;rw [KT h];simp only [jf,h0,h1,h2,h3]
  ·have h1:¬((n:Nat):Int) < 10:=by omega
   have hq:js .quo false (vi (n:Nat)) (vi 10)=some (vi ((n / 10:Nat):Int)):=by
    show ck (((n:Nat):Int).tdiv 10)=_;rw [Int.tdiv_eq_ediv_of_nonneg (by omega)];exact jE (by omega) (by omega)
   have hr:js .rem false (vi (n:Nat)) (vi 10)=some (vi ((n % 10:Nat):Int)):=by
    show some (vi (((n:Nat):Int).tmod 10))=_;rw [Int.tmod_eq_emod_of_nonneg (by omega)];rfl
   have h2:ck (((n % 10:Nat):Int)+1)=some (vi ((n % 10+1:Nat):Int)):=jE (by omega) (by omega);have h3:=jrW (n % 10) (by omega);have h4:=ih (n / 10) (by omega) (by omega);have hl:(Lib.decDigits (n / 10)).length + [UInt8.ofNat (48+n % 10)].length<=9223372036854775807:=by
    have:=(qA 6 (n / 10) (by omega)).2;simp only [List.length_cons,List.length_nil];omega
   have h5:=QI false (Lib.decDigits (n / 10)) [UInt8.ofNat (48+n % 10)];rw [if_pos hl] at h5;rw [jbz h];simp only [jf,h0,h1,hq,hr,h2,h3,h4,h5]
def jup:Nat->List (List UInt8)->Bool
 | _,[]=>true
 | i,n::r=>decide (n=jnX 88 i) && jup (i+1) r
abbrev Nm':=List (List UInt8 × List UInt8)
abbrev kn (p:List UInt8 × List UInt8):List A:=[sv p.1,sv p.2]
def jun:Nm'->List UInt8->Option (List UInt8)
 | [],_=>none
 | p::m,n=>if p.1=n then some p.2 else jun m n
def juB (p:UInt8):Nat->List (List UInt8)->Nm'
 | _,[]=>[]
 | i,n::r=>(n,jnX p i)::juB p (i+1) r
theorem jaI {n:Nat} (h:n<=1000000):jJ n 48=true:=by
 unfold jJ;exact decide_eq_true ⟨by omega,by omega⟩
theorem jcN {α:Type} {f:α->List A} {xs:List α} {i:Nat} (h:i < xs.length):km ((xs.take i).map f) [f xs[i]]=(xs.take (i+1)).map f:=by
 rw [List.take_add_one,List.getElem?_eq_getElem h,List.map_append];rfl
theorem take_len {α:Type} {f:α->List A} {xs:List α} {i:Nat} (h:i<=xs.length):((xs.take i).map f).length=i:=by rw [List.length_map,List.length_take];omega
noncomputable def eqL (a b:Lt):Bool:=decide (a.1=b.1) && dq a.2 b.2
theorem YO (a b:Lt):eqL a b=true↔a=b:=by
 obtain ⟨p,t⟩:=a;obtain ⟨q,u⟩:=b;unfold eqL;rw [Bool.and_eq_true,decide_eq_true_eq,zv,Prod.mk.injEq]
theorem Zf (a b:Lt) (ha:Tz a.2) (hb:Tz b.2):G 95 [ltm a,ltm b]=some (vb (eqL a b),[]):=by
 have e1:=z8 a.2 ha.wf b.2 hb.wf;unfold eqL;rw [g95];by_cases h:a.1=b.1
 ·rw [decide_eq_true h,Bool.true_and];simp only [jf,h,e1]
 ·rw [decide_eq_false h,Bool.false_and];simp only [jf,h]
theorem jbx (l:Lt) (h:Tz l.2):G 92 [ltm l]=some (ltm l,[]):=by
 have e1:=KR l.2 h;rw [g92];simp only [jf,e1];generalize hB:kJ _ _ _=B;have hB':B=some (ltm l):=by rw [<-hB];kernel_rfl
 rw [hB'];simp only [jf]
noncomputable def cpG:Lt->List Lt->List Lt
 | _,[]=>[]
 | p,b::l=>if eqL b p then cpG b l else b::cpG b l
theorem jf7:∀(l:List Lt) (a:Lt),YN eqL (a::l)=a::cpG a l
 | [],a=>rfl
 | b::l,a=>by
  rw [YN,jf7 l b,cpG];show (if eqL a b then b::cpG b l else a::b::cpG b l)=_;by_cases h:a=b
  ·subst h;rw [if_pos ((YO a a).2 rfl),if_pos ((YO a a).2 rfl)]
  ·rw [if_neg (λe=>h ((YO a b).1 e)),if_neg (λe=>h ((YO b a).1 e).symm)]
theorem juI {α:Type} {f:α->List A} {xs:List α} {i:Nat} (h:i < xs.length) (n:Nat):zB (xs.map f) i 0 n=some (.agg ((f xs[i]).take n)):=by unfold zB;simp [h]
theorem Qh {xs:List Lt} {i:Nat} (h:i < xs.length):zB (xs.map jy) i 0 3=some (ltm xs[i]):=juI h 3
theorem joj {α:Type} {f:α->List A} {xs:List α} {i:Nat} (h:i < xs.length):KE (jw (xs.map f)) (vi (i:Nat))=some i:=by
 rw [jcu,List.length_map];exact ze h
theorem jbA {α:Type} {R s:List α} {k i:Nat} (h:R.drop k=s.drop k) (hk:k<=i) (hi:i < R.length) (hs:i < s.length):R[i]=s[i]:=by
 have:=congrArg (λl=>l[i - k]?) h;simp only [List.getElem?_drop,show k+(i - k)=i by omega,List.getElem?_eq_getElem hi,List.getElem?_eq_getElem hs] at this;exact Option.some.inj this
theorem jnd (s:List Lt) (hl:s.length<=1000000) (hz:∀x∈s,Tz x.2) (k:Nat) (hk:k < s.length):∀j,j<=s.length - k->1<=j-> ∀(w:Nat) (R:List Lt),R.length=s.length->R.drop (k+j - 1)=s.drop (k+j - 1)->w+1<=k+j-> ∀p:Lt,(∃h:k+j - 1 < s.length,s[k+j - 1]=p)->
  YB (vi (w:Nat)) (nA k) (nA (s.length - k)) (vi (j:Nat)) (R.map jy)=some (.top,[.sl 3 ((R.take w++cpG p (s.drop (k+j))).map jy)]):=by
 refine upto ?_ ?_
 ·intro _ w R hR hag hw p hp;have hd:s.drop (k+(s.length - k)) = []:=List.drop_eq_nil_of_le (by omega);have hlt:¬((s.length - k:Nat):Int) < ((s.length - k:Nat):Int):=by omega
  have hlt':js .lss false (vi ((s.length - k:Nat):Int)) (nA (s.length - k))=some (vb false):=by
   show some (vb (decide _))=_;rw [decide_eq_false hlt]
  have b1:pB (yV (R.map jy)) (qi (R.map jy) 0) none=some R.length:=by
   rw [J3,show qi (R.map jy) 0=R.length by rw [ja4,List.length_map];rfl];exact Jc (Nat.le_refl _)
  have b2:pB 0 R.length (some (vi (w:Nat)))=some w:=Qc (by omega);have ln:(yc (R.map jy) (0+w) (KA (zo R.length w) [vb false,sv [],.sl 2 []])).length=R.length:=by
   rw [jhg];simp [KA,qE];omega
  have b3:pB (yV (yc (R.map jy) (0+w) (KA (zo R.length w) [vb false,sv [],.sl 2 []]))) (qi (yc (R.map jy) (0+w) (KA (zo R.length w) [vb false,sv [],.sl 2 []])) 0) (some (vi (w:Nat)))=some w:=by
   rw [jqt,ja4,ln];exact Qc (by omega)
  have tk:List.take (zo w 0) (yc (R.map jy) (0+w) (KA (zo R.length w) [vb false,sv [],.sl 2 []]))=(R.take w).map jy:=by
   rw [jhg,qE,Nat.sub_zero,Nat.zero_add,List.append_assoc,List.take_append_of_le_length (by rw [List.length_take,List.length_map];omega),List.take_take,Nat.min_self,List.map_take]
  have h1:nOf (nA (s.length - k))=s.length - k:=rfl;rw [jkn];simp only [cev];rw [hd,cpG,List.append_nil,h1,hlt'];simp only [Option.bind_some,jch,Qx,b1,b2,b3,tk]
 ·intro j hj ih hj1 w R hR hag hw p hp;obtain ⟨hp1,hp2⟩:=hp;have hi:k+j < s.length:=by omega
  have hlt':js .lss false (vi ((j:Nat):Int)) (nA (s.length - k))=some (vb true):=by
   show some (vb (decide (((j:Nat):Int) < ((s.length - k:Nat):Int))))=_;rw [decide_eq_true (by omega)]
  have h1:nOf (nA (s.length - k))=s.length - k:=rfl;have h2:nOf (nA k)=k:=rfl;have x1:KE (s.length - k) (vi ((j:Nat):Int))=some j:=ze hj;have c1:js .sub false (vi ((j:Nat):Int)) (vi 1)=some (vi ((j - 1:Nat):Int)):=by
   rw [jgV,show ((j:Nat):Int) - 1=((j - 1:Nat):Int) by omega];exact jE (by omega) (by omega)
  have x2:KE (s.length - k) (vi ((j - 1:Nat):Int))=some (j - 1):=ze (by omega);have a1:R[k+j]'(by omega)=s[k+j]:=jbA hag (by omega) (by omega) hi;have a2:R[k+(j - 1)]'(by omega)=p:=by
   rw [<-hp2];have:=jbA hag (i:=k+(j - 1)) (by omega) (by omega) (by omega);rw [this];congr 1;omega
  have r1:zB (R.map jy) (k+j) 0 3=some (ltm s[k+j]):=by rw [Qh (by omega),a1]
  have r2:zB (R.map jy) (k+(j - 1)) 0 3=some (ltm p):=by rw [Qh (by omega),a2]
  have zp:Tz p.2:=by rw [<-hp2];exact hz _ (List.getElem_mem _)
  have e1:=Zf s[k+j] p (hz _ (List.getElem_mem _)) zp;have h5:js .add false (vi ((j:Nat):Int)) (vi 1)=some (vi ((j+1:Nat):Int)):=jz (i:=j) (n:=j+1) (by omega) (by omega);have hdr:s.drop (k+j)=s[k+j]::s.drop (k+(j+1)):=jl hi;have hag':R.drop (k+(j+1) - 1)=s.drop (k+(j+1) - 1):=by
   have:=congrArg (List.drop 1) hag;rw [List.drop_drop,List.drop_drop] at this;rwa [show k+j - 1+1=k+(j+1) - 1 by omega] at this
  have hx:∃h:k+(j+1) - 1 < s.length,s[k+(j+1) - 1]=s[k+j]:=⟨by omega,by congr 1⟩;rw [jkn];simp only [cev];rw [hdr,cpG,h1,h2,hlt'];cases hq:eqL s[k+j] p<;>rw [hq] at e1
  ·rw [if_neg Bool.false_ne_true];have x3:KE R.length (vi (w:Nat))=some w:=ze (by omega);have rg:jc9 (R.map jy) w=some (jy (R[w]'(by omega))):=by unfold jc9;simp [show w < R.length by omega]
   have co:∀x y:Lt,Jr (jy x) 0 [vb y.1,sv y.2.name,j6 y.2.args]=jy y:=λx y=>rfl;have rs:Jd (R.map jy) w (jy s[k+j])=(R.set w s[k+j]).map jy:=by unfold Jd;rw [List.map_set]
   have h6:js .add false (vi ((w:Nat):Int)) (vi 1)=some (vi ((w+1:Nat):Int)):=jz (i:=w) (n:=w+1) (by omega) (by omega);have:=ih (by omega) (w+1) (R.set w s[k+j]) (by rw [List.length_set];exact hR) (by rw [List.drop_set_of_lt (by omega)];exact hag') (by omega) s[k+j] hx;have tk:(R.set w s[k+j]).take (w+1)=R.take w++[s[k+j]]:=by
    rw [List.take_add_one,List.take_set_of_le (Nat.le_refl _),List.getElem?_set_self (by omega)];rfl
   rw [tk,List.append_assoc] at this;simp only [jf,x1,r1,c1,x2,r2,e1,x3,rg,co,rs,h6,h5];rw [this];rfl
  ·rw [if_pos rfl];have:=ih (by omega) w R hR hag' (by omega) s[k+j] hx;simp only [jf,x1,r1,c1,x2,r2,e1,h5];exact this
theorem jnc (s:List Lt) (hl:s.length<=1000000) (hz:∀x∈s,Tz x.2):∀k,k<=s.length->1<=k-> ∀p:Lt,(∃h:k - 1 < s.length,s[k - 1]=p)->jaT (vi (k:Nat)) (s.map jy)=some (.top,[.sl 3 ((s.take k++cpG p (s.drop k)).map jy)]):=by
 refine upto ?_ ?_
 ·intro _ p _;rw [jkm,List.drop_length,cpG,List.append_nil,List.take_length];simp only [jf]
 ·intro k hk ih hk1 p hp;obtain ⟨hp1,hp2⟩:=hp;have hlt:((k:Nat):Int) < ((s.length:Nat):Int):=by omega
  have x1:KE (jw (s.map jy)) (vi (k:Nat))=some k:=joj hk;have c1:ck (((k:Nat):Int) - 1)=some (vi ((k - 1:Nat):Int)):=by
   rw [show ((k:Nat):Int) - 1=((k - 1:Nat):Int) by omega];exact jE (by omega) (by omega)
  have x2:KE (jw (s.map jy)) (vi ((k - 1:Nat):Int))=some (k - 1):=joj hp1;have r1:=Qh hk;have r2:zB (s.map jy) (k - 1) 0 3=some (ltm p):=by rw [Qh hp1,hp2]
  have zp:Tz p.2:=by rw [<-hp2];exact hz _ (List.getElem_mem _)
  have e1:=Zf s[k] p (hz _ (List.getElem_mem _)) zp;have h5:=jz hk (by show s.length<=9223372036854775807;omega);rw [jkm,jl hk,cpG];rw [jcu,List.length_map] at x1 x2;cases hq:eqL s[k] p<;>rw [hq] at e1
  ·have ih:=ih (by omega) s[k] ⟨by omega,by congr 1⟩;rw [List.take_add_one,List.getElem?_eq_getElem hk,List.append_assoc] at ih;rw [if_neg Bool.false_ne_true];simp only [jf,hlt,x1,r1,c1,x2,r2,e1,h5];exact ih
  ·have b1:pB (yV (s.map jy)) (qi (s.map jy) 0) none=some s.length:=by
    rw [J3,show qi (s.map jy) 0=s.length by rw [ja4,List.length_map];rfl];exact Jc (Nat.le_refl _)
   have b2:pB 0 s.length (some (vi (k:Nat)))=some k:=Qc (by omega);have:=jnd s hl hz k hk 1 (by omega) (Nat.le_refl _) k s rfl rfl (Nat.le_refl _) s[k] ⟨by omega,rfl⟩;rw [if_pos rfl];simp only [jf,hlt,x1,r1,c1,x2,r2,e1,b1,b2,qE];exact this
theorem jig (s:List Lt) (hl:s.length<=1000000) (hz:∀x∈s,Tz x.2):jmN (s.map jy)=some (.top,[.sl 3 ((YN eqL s).map jy)]):=by
 rw [jtX]
 match s,hl,hz with
 | [],_,_=>simp only [jf];rfl
 | [a],_,_=>simp only [jf];rfl
 | a::b::r,hl,hz=>
  have:=jnc (a::b::r) hl hz 1 (by simp) (Nat.le_refl _) a ⟨by simp,rfl⟩;rw [jf7];have hlt:¬(((a::b::r).length:Nat):Int) < 2:=by simp only [List.length_cons];omega
  generalize hx:a::b::r=x at *;simp only [jf,hlt];rw [<-hx] at this ⊢;exact this
theorem jl7 (l:List Lt) (hl:l.length<=1000000) (hk:∀x∈l,Rx' x.2) (hz:∀x∈l,Tz x.2):∃s:List Lt,s.Perm l/\s.Pairwise (λa b=>¬cmpL b a < 0)/\jmM (l.map jy)=some (.top,[.sl 3 (s.map jy)]):=by
 obtain ⟨s,h1,h2,h3⟩:=jgf z7 id jy 3 43 rfl l (by omega) λx hx y hy=>qY x y (hk x hx) (hz x hx) (hk y hy) (hz y hy);exact ⟨s,h1,h2,by rw [jtW];exact h3⟩
theorem jf5 (l:List Lt) (hl:l.length<=1000000) (hk:∀x∈l,Rx' x.2) (hz:∀x∈l,Tz x.2):G 58 [.sl 3 (l.map jy)]=some (cm (kz cmpL l),[]):=by
 obtain ⟨s,h1,h2,h3⟩:=jl7 l hl hk hz;have h4:=jig s (by rw [h1.length_eq];exact hl) λx hx=>hz x (h1.mem_iff.1 hx);rw [jp6 z7 YO h2 λx=>h1.mem_iff] at h4;have key:=upto (P:=λi=>jjC (.sl 3 (l.map jy)) (vi (l.length:Nat)) (vi (i:Nat)) [] ((l.take i).map jy)=some (cm (kz cmpL l),[])) (n:=l.length) ?_ ?_ 0 (Nat.zero_le _)
 ·simp only [Int.natCast_zero,List.take_zero,List.map_nil] at key;rw [g58];simp only [jf,key]
 ·have r1:∀s:List Lt,hR 3 (A.top,[.sl 3 (s.map jy)]) 0=some (s.map jy):=λs=>rfl;rw [jrA,List.take_length];simp only [jf,h3,r1,h4]
 ·intro i hi ih;have hlt:(i:Int) < ((l.length:Nat):Int):=by omega
  have h5:=jz hi (by show l.length<=9223372036854775807;omega)
  have e1:=jbx l[i] (hz _ (List.getElem_mem _));have ta:=jcN (f:=jy) hi;have tl:=take_len (f:=jy) (Nat.le_of_lt hi);have hf:jJ (i+1) 48=true:=jaI (by omega);generalize (l.take i).map jy=R at *;rw [jrA];simp only [jf,hlt,jb hi,yg,e1,tl,hf,ta,h5,ih]
theorem jgp (c:j7) (hl:c.length<=1048576) (hz:∀l∈c,Tz l.2):G 57 [cm c]=jiM (if jM c then some c else none):=by
 have e1:=kA c hl hz;rw [g57];cases hv:jM c<;>rw [hv] at e1
 ·rw [if_neg Bool.false_ne_true];simp only [jf,e1];rfl
 ·rw [if_pos rfl];simp only [jf,e1];rfl
noncomputable def sameC (a b:j7):Bool:=dq a b
theorem jkO {α:Type} {p:α->Bool} {l:List α} {k:Nat} (hk:k<=l.length) (h1:∀j,(h:j < k)-> ∀h':j < l.length,p l[j]=true) (h2:(∃h:k < l.length,p l[k]=false)\/k=l.length):l.takeWhile p=l.take k/\l.dropWhile p=l.drop k:=by
 have hp:∀a∈l.take k,p a=true:=λa ha=>by
  obtain ⟨j,hj,rfl⟩:=List.mem_iff_getElem.1 ha;rw [List.length_take] at hj;rw [List.getElem_take];exact h1 j (by omega) (by omega)
 have e:=List.takeWhile_append_of_pos (l₂:=l.drop k) hp;have e':=List.dropWhile_append_of_pos (l₂:=l.drop k) hp;rw [List.take_append_drop] at e e';rw [e,e'];rcases h2 with ⟨h,h2⟩|h
 ·rw [jl h,List.takeWhile_cons_of_neg (by simp [h2]),List.dropWhile_cons_of_neg (by simp [h2]),List.append_nil];exact ⟨rfl,rfl⟩
 ·rw [h,List.drop_length];simp
theorem jaX (u:List Lt) (hl:u.length<=900000) (i:Nat) (hi:i<=u.length) (x:Lt) :
  pB (yV (u.map jy)) (qi (u.map jy) 0) (some (vi (i:Nat)))=some i/\yl (u.map jy) 0 (zo i 0)=(u.take i).map jy/\jJ (u.take i).length 48=true/\pB (yV (u.map jy)) (qi (u.map jy) 0) none=some u.length/\pB 0 u.length (some (vi (i:Nat)))=some i/\yl (u.map jy) i (zo u.length i)=(u.drop i).map jy/\
  jJ ((u.take i).length+1) 48=true/\jJ ((km ((u.take i).map jy) [jy x]).length+((u.drop i).map jy).length) 48=true/\km (km ((u.take i).map jy) [jy x]) ((u.drop i).map jy)=(u.take i++x::u.drop i).map jy:=by
 have e1:yV (u.map jy)=u.length:=J3 jy u;have e2:qi (u.map jy) 0=u.length:=by rw [ja4,List.length_map];rfl
 refine ⟨by rw [e1,e2];exact Qc hi,by rw [jkB,qE,Nat.sub_zero,List.drop_zero,List.map_take],?_,by rw [e1,e2];exact Jc (Nat.le_refl _),Qc hi,?_,?_,?_,?_⟩
 ·rw [List.length_take];exact jaI (by omega)
 ·rw [jkB,qE,<-List.map_drop,List.take_of_length_le (by rw [List.length_map,List.length_drop];omega)]
 ·rw [List.length_take];exact jaI (by omega)
 ·exact jaI (by unfold km;rw [List.length_append,List.length_map,List.length_map,List.length_take,List.length_drop];simp only [List.length_cons,List.length_nil];omega)
 ·unfold km;rw [List.map_append,List.append_assoc];rfl
theorem jgz (l:List Lt) (hl:l.length<=1000) (hz:∀x∈l,Tz x.2) (i:Nat) (hi:i < l.length) (u:List Lt) (hu:u.length<=1000) (hzu:∀x∈u,Tz x.2):∀k,k<=u.length->(∀j,(h:j < k)-> ∀h':j < u.length,cmpL u[j] l[i] < 0)->
  jjA (.sl 3 (l.map jy)) (vi (i:Nat)) (vi (k:Nat)) (u.map jy) []=jde (.sl 3 (l.map jy)) (vi ((i+1:Nat):Int)) ((qo cmpL u l[i]).map jy) []:=by
 have h5:=jz hi (by show l.length<=9223372036854775807;omega)
 have ld:∀l:Lt,kZ (.elt (jy l) 0)=some (vb l.1):=λl=>rfl;have ad:∀(l:Lt) (n:Nat),zU (.elt (jy l) 0) n=some (.elt (jy l) n):=λl n=>by rw [qh,Nat.zero_add]
 have ld2:∀l:Lt,jF 2 (.elt (jy l) 1)=some (tm l.2):=λl=>rfl;have e2:=QH l[i].2 (hz _ (List.getElem_mem _));have hck:ck ((i:Int)+1)=some (vi ((i+1:Nat):Int)):=jE (by omega) (by omega);refine upto ?_ ?_
 ·intro hall;obtain ⟨t1,t2⟩:=jkO (p:=λa=>decide (cmpL a l[i] < 0)) (Nat.le_refl u.length) (λj h h'=>decide_eq_true (hall j h h')) (Or.inr rfl);obtain ⟨k1,k2,k3,k4,k5,k6,k7,k8,k9⟩:=jaX u (by omega) u.length (Nat.le_refl _) l[i];have hins:qo cmpL u l[i]=u.take u.length++l[i]::u.drop u.length:=by
   unfold qo;rw [t1,t2,List.drop_length,if_neg (by simp)]
  rw [hins,jrt];simp only [cev];have hlt:js .lss false (vi (u.length:Nat)) (zW (u.map jy))=some (vb false):=by
   rw [jkA,List.length_map,jgU,decide_eq_false (by omega)]
  simp only [hlt,Option.bind_some,jg3,jrP,Bool.false_eq_true,if_false,decide_false,decide_true,jgY,jch,Qx,jf0,jb hi,ad,ld,ld2,jgg];simp only [jf,hlt,jb hi,ad,ld,ld2,e2];generalize hB:kJ _ _ _=B;have hB':B=some (ltm l[i]):=by rw [<-hB];kernel_rfl
  rw [hB'];simp only [jf,k1,k2,k4,k5];rw [if_pos k3,if_pos k7,k6,if_pos k8,hck,Option.bind_some,k9]
 ·intro k hk ih hall;have hlt:((k:Nat):Int) < ((u.length:Nat):Int):=by omega
  have x1:KE u.length (vi (k:Nat))=some k:=ze hk;have r1:=Qh hk;have e1:=JE u[k] l[i] (hzu _ (List.getElem_mem _)) (hz _ (List.getElem_mem _));rw [jrt];by_cases hc:cmpL u[k] l[i] < 0
  ·have ih:=ih λj h h'=>by
    by_cases hj:j=k
    ·subst hj;exact hc
    ·exact hall j (by omega) h'
   have hk1:ck ((k:Int)+1)=some (vi ((k+1:Nat):Int)):=jE (by omega) (by omega);generalize cmpL u[k] l[i]=d at *;simp only [jf,hlt,x1,r1,jb hi,yg,e1,hc,hk1];exact ih
  ·obtain ⟨t1,t2⟩:=jkO (p:=λa=>decide (cmpL a l[i] < 0)) (Nat.le_of_lt hk) (λj h h'=>decide_eq_true (hall j h h')) (Or.inl ⟨hk,decide_eq_false hc⟩);have hins:qo cmpL u l[i]=if cmpL u[k] l[i]=0 then u else u.take k++l[i]::u.drop k:=by
    unfold qo;rw [t1,t2,jl hk];by_cases h0:cmpL u[k] l[i]=0
    ·rw [if_pos h0];exact if_pos (decide_eq_true h0)
    ·rw [if_neg h0];exact if_neg (λe=>h0 (of_decide_eq_true e))
   rw [hins];by_cases h0:cmpL u[k] l[i]=0
   ·rw [if_pos h0];rw [h0] at e1;simp only [jf,hlt,x1,r1,jb hi,yg,e1,hck]
   ·obtain ⟨k1,k2,k3,k4,k5,k6,k7,k8,k9⟩:=jaX u (by omega) k (Nat.le_of_lt hk) l[i];rw [if_neg h0];generalize cmpL u[k] l[i]=d at *;simp only [jf,hlt,x1,r1,jb hi,yg,e1,hc,h0,ad,ld,ld2,e2];generalize hB:kJ _ _ _=B;have hB':B=some (ltm l[i]):=by rw [<-hB];kernel_rfl
    rw [hB'];simp only [jf,k1,k2,k4,k5];rw [if_pos k3,if_pos k7,k6,if_pos k8,hck,Option.bind_some,k9]
theorem jgq {u:List Lt} (hu:Asc cmpL u) (x:Lt) {y:Lt} :y∈qo cmpL u x↔y∈u\/y=x:=(YZ z7 hu x).2 y
theorem jls (l:List Lt) (hl:l.length<=900) (hz:∀x∈l,Tz x.2):G 37 [.sl 3 (l.map jy)]=some (cm (kz cmpL l),[]):=by
 have key:=upto (P:=λi=>∀u:List Lt,Asc cmpL u->u.length<=i->(∀x∈u,Tz x.2)->jde (.sl 3 (l.map jy)) (vi (i:Nat)) (u.map jy) []=some (cm ((l.drop i).foldl (qo cmpL) u),[])) (n:=l.length) ?_ ?_ 0 (Nat.zero_le _) [] List.Pairwise.nil (Nat.le_refl _) (λx h=>by cases h)
 ·rw [List.drop_zero] at key;simp only [Int.natCast_zero,List.map_nil] at key;rw [g37,key];rfl
 ·intro u _ _ _;rw [jrs,List.drop_length];simp only [jf];rfl
 ·intro i hi ih u ha hu hzu;have hlt:(i:Int) < ((l.length:Nat):Int):=by omega
  have:=jgz l (by omega) hz i hi u (by omega) hzu 0 (Nat.zero_le _) (λj h=>absurd h (Nat.not_lt_zero _));simp only [Int.natCast_zero] at this;have h2:=ih (qo cmpL u l[i]) (YZ z7 ha l[i]).1 (by have:=jbL cmpL u l[i];omega) λx hx=>by
   rcases (jgq ha l[i]).1 hx with h|h
   ·exact hzu x h
   ·rw [h];exact hz _ (List.getElem_mem _)
  rw [jrs,jl hi,List.foldl_cons];simp only [jf,hlt,this,h2]
mutual
def wT:T->List Key
 | .mk n us=>ya (.mk n us)::wTL us
def wTL:List T->List Key
 | []=>[]
 | t::ts=>wT t++wTL ts
end
def jlu:List Key->List Key->Int
 | [],[]=>0
 | [],_::_=> -1
 | _::_,[]=>1
 | a::x,b::y=>if cK a b≠0 then cK a b else jlu x y
mutual
theorem jsC:∀(a b:T) (x y:List Key),jlu (wT a++x) (wT b++y)=if zc a b≠0 then zc a b else jlu x y
 | .mk n us,.mk m vs,x,y=>by
  have e:=Kb (.mk n us) (.mk m vs);rw [wT,wT,List.cons_append,List.cons_append,jlu];by_cases h:cK (ya (.mk n us)) (ya (.mk m vs))=0
  ·rw [if_neg (by simpa using h)] at e ⊢;have e:zc (.mk n us) (.mk m vs)=kE us vs:=e;have hk:=jbX ((J9.zero _ _).1 h);have hl:us.length=vs.length:=hk.2;rw [e,jko us vs x y hl]
  ·rw [if_pos h] at e ⊢;rw [e,if_pos h]
theorem jko:∀(us vs:List T) (x y:List Key),us.length=vs.length->jlu (wTL us++x) (wTL vs++y)=if kE us vs≠0 then kE us vs else jlu x y
 | [],[],x,y,_=>by
  rw [kE,if_neg (λh=>h rfl)];rfl
 | [],_::_,_,_,h=>by cases h
 | _::_,[],_,_,h=>by cases h
 | a::us,b::vs,x,y,h=>by
  rw [wTL,wTL,List.append_assoc,List.append_assoc,jsC a b,jko us vs x y (Nat.succ.inj h),kE];by_cases h0:zc a b=0
  ·simp [h0]
  ·simp [h0]
end
def rK (f:List UInt8->List UInt8) (k:Key):Key:=if k.1=0 then (0,(f k.2.1,0)) else k
def wV:List Key->List (List UInt8)
 | []=>[]
 | k::w=>if k.1=0 then k.2.1::wV w else wV w
theorem jfx:∀x y:List Key,wV (x++y)=wV x++wV y
 | [],_=>rfl
 | k::x,y=>by
  rw [List.cons_append,wV,wV,jfx x y];split<;>rfl
theorem Y5 {n:List UInt8} (h:ju n=true):ya (.mk n [])=(0,(n,0)):=by
 unfold ya vF;show ((if ju n then 0 else 1),(n,0))=_;rw [if_pos h]
theorem Y4 {n:List UInt8} {us:List T} (h:ju n=false):ya (.mk n us)=(1,(n,us.length)):=by
 unfold ya vF;show ((if ju n then 0 else 1),(n,us.length))=_;rw [h,if_neg Bool.false_ne_true]
mutual
theorem jn8:∀(t:T) (l:List (List UInt8)),zt t=true->Yh l t=(wV (wT t)).foldl vnA l
 | .mk n us,l,h=>by
  rw [zt] at h;rw [Yh,wT];cases hv:ju n with
  | true=>
   rw [hv,if_pos rfl] at h;have:us = []:=List.isEmpty_iff.1 h;subst this;rw [if_pos rfl,Y5 hv,wV,if_pos rfl];rfl
  | false=>
   rw [hv,if_neg Bool.false_ne_true,Bool.and_eq_true,Bool.and_eq_true] at h;rw [if_neg Bool.false_ne_true,Y4 hv,wV,if_neg Nat.one_ne_zero];exact jdG us l h.2.2
theorem jdG:∀(ts:List T) (l:List (List UInt8)),Kk ts=true->QG l ts=(wV (wTL ts)).foldl vnA l
 | [],_,_=>rfl
 | t::ts,l,h=>by
  rw [Kk,Bool.and_eq_true] at h;rw [QG,wTL,jfx,List.foldl_append,jn8 t l h.1,jdG ts _ h.2]
end
section
variable {f:List UInt8->List UInt8}
mutual
theorem joB:∀(t:T),zt t=true->(∀n∈wV (wT t),ju (f n)=true)->wT (zX f t)=(wT t).map (rK f)
 | .mk n us,h,hf=>by
  rw [zt] at h;rw [zX];cases hv:ju n with
  | true=>
   rw [hv,if_pos rfl] at h;have:us = []:=List.isEmpty_iff.1 h;subst this;have hn:ju (f n)=true:=hf n (by rw [wT,Y5 hv,wV,if_pos rfl];exact List.mem_cons_self);rw [if_pos rfl,wT,wT,Y5 hv,Y5 hn];rfl
  | false=>
   rw [hv,if_neg Bool.false_ne_true,Bool.and_eq_true,Bool.and_eq_true] at h;have hl:(kX f us).length=us.length:=by rw [Zc,List.length_map]
   rw [if_neg Bool.false_ne_true,wT,wT,Y4 hv,Y4 hv,hl,List.map_cons,jdY us h.2.2 (λm hm=>hf m (by rw [wT,Y4 hv,wV,if_neg Nat.one_ne_zero];exact hm))]
   rfl
theorem jdY:∀(ts:List T),Kk ts=true->(∀n∈wV (wTL ts),ju (f n)=true)->wTL (kX f ts)=(wTL ts).map (rK f)
 | [],_,_=>rfl
 | t::ts,h,hf=>by
  rw [Kk,Bool.and_eq_true] at h;rw [kX,wTL,wTL,List.map_append,joB t h.1 (λn hn=>hf n (by rw [wTL,jfx];exact List.mem_append_left _ hn)),jdY ts h.2 (λn hn=>hf n (by rw [wTL,jfx];exact List.mem_append_right _ hn))]
end
end
def yK (c:j7):List (List UInt8):=c.flatMap λl=>wV (wT l.2)
mutual
theorem jn4:∀t:T,zt t=true-> ∀k∈wT t,k.1=0->k.2.2=0
 | .mk n us,h,k,hk,h0=>by
  rw [zt] at h;rw [wT] at hk;cases hv:ju n with
  | true=>
   rw [hv,if_pos rfl] at h;have:us = []:=List.isEmpty_iff.1 h;subst this;rw [Y5 hv] at hk;rcases List.mem_cons.1 hk with e|hk
   ·rw [e]
   ·cases hk
  | false=>
   rw [hv,if_neg Bool.false_ne_true,Bool.and_eq_true,Bool.and_eq_true] at h;rw [Y4 hv] at hk;rcases List.mem_cons.1 hk with e|hk
   ·rw [e] at h0;cases h0
   ·exact jdF us h.2.2 k hk h0
theorem jdF:∀ts:List T,Kk ts=true-> ∀k∈wTL ts,k.1=0->k.2.2=0
 | [],_,k,hk,_=>by cases hk
 | t::ts,h,k,hk,h0=>by
  rw [Kk,Bool.and_eq_true] at h;rw [wTL] at hk;rcases List.mem_append.1 hk with hk|hk
  ·exact jn4 t h.1 k hk h0
  ·exact jdF ts h.2 k hk h0
end
theorem Qa {α:Type} [DecidableEq α]:∀ {l m:List α},l.Nodup->(∀x∈l,x∈m)->l.length<=m.length
 | [],_,_,_=>Nat.zero_le _
 | a::l,m,hd,hs=>by
  obtain ⟨h1,h2⟩:=List.pairwise_cons.1 hd;have ham:=hs a List.mem_cons_self;have ih:=Qa (l:=l) (m:=m.erase a) h2 λx hx=>(List.mem_erase_of_ne (λe=>h1 x hx e.symm)).2 (hs x (List.mem_cons_of_mem _ hx));rw [List.length_erase_of_mem ham] at ih;have:=List.length_pos_of_mem ham;rw [List.length_cons];omega
theorem jfj (x y:List UInt8):(kQ x y || decide (x=y))=!kQ y x:=by
 rw [Yn,Yn];by_cases h1:x < y
 ·rw [decide_eq_true h1,decide_eq_false (λh2=>List.lt_irrefl _ (List.lt_trans h1 h2))];rfl
 ·by_cases h2:x=y
  ·subst h2;rw [decide_eq_false h1,decide_eq_true rfl];rfl
  ·rw [decide_eq_false h1,decide_eq_false h2,decide_eq_true (jsF h1 h2)];rfl
theorem jlM (b:Bool) (x y:List UInt8):js .leq b (sv x) (sv y)=some (vb (!kQ y x)):=by rw [<-jfj];rfl
theorem jlL (b:Bool) (x y:List UInt8):js .geq b (sv x) (sv y)=some (vb (!kQ x y)):=rfl
def ZM:Option (List UInt8)->jk->Bool
 | _,[]=>true
 | none,q::r=>ju q.1 && (kD q.2 && (!decide (q.2.name=q.1) && ZM (some q.1) r))
 | some m,q::r=>kQ m q.1 && (ju q.1 && (kD q.2 && (!decide (q.2.name=q.1) && ZM (some q.1) r)))
def okB (q:List UInt8 × T):Bool:=ju q.1 && (kD q.2 && !decide (q.2.name=q.1))
theorem jec:∀(s:jk) (m:List UInt8) (t:T),ZM (some m) s=(jez ((m,t)::s) && s.all okB)
 | [],m,t=>rfl
 | q::r,m,t=>by
  rw [ZM,jec r q.1 q.2,jez,List.all_cons,okB];cases kQ m q.1<;>cases ju q.1<;>cases kD q.2<;>cases decide (q.2.name=q.1)<;>simp
theorem jeb (s:jk):(ZM none s && decide (s.length<=12))=kC s:=by
 have hd:∀q:List UInt8 × T,dq q.2.name q.1=decide (q.2.name=q.1):=λq=>by
  by_cases h:q.2.name=q.1
  ·rw [zv.2 h,decide_eq_true h]
  ·rw [jf9.2 h,decide_eq_false h]
 have ha:s.all (λq=>ju q.1 && (kD q.2 && !dq q.2.name q.1))=s.all okB:=by
  unfold okB;congr 1;funext q;rw [hd]
 unfold kC;rw [ha];cases s with
 | nil=>rfl
 | cons q r=>
  rw [ZM,jec r q.1 q.2,List.all_cons];unfold okB;cases ju q.1<;>cases kD q.2<;>cases decide (q.2.name=q.1)<;>simp [Bool.and_comm]
def SzB (s:jk):Prop:=s.length<=1000000/\ ∀q∈s,q.1.length<=1000000/\Tz q.2
theorem SzB.sz {s:jk} (h:SzB s):Sz 1048576 s:=⟨by have:=h.1;omega,λq hq=>⟨by have:=(h.2 q hq).1;omega,(h.2 q hq).2⟩⟩
theorem jmr {s:jk} (h:kC s=true):SzB s:=by
 obtain ⟨h1,_,h3⟩:=kY h;refine ⟨by omega,λq hq=>⟨?_,?_⟩⟩
 ·have:=jhV (h3 q hq).1;omega
 ·have:=Yg q.2 (ZH (h3 q hq).2.1);have:=Qm h q hq;unfold Tz;omega
theorem JG (q:List UInt8 × T):jF 3 (.elt (bc q) 0)=some (.agg [sv q.1,sv q.2.name,j6 q.2.args]):=rfl
theorem jef (s:jk) (hs:SzB s):G 28 [sb s]=some (vb (kC s),[]):=by
 have hl:=hs.1;have key:=upto (P:=λi=>∀p:Option (List UInt8),(p=none↔i=0)->(∀m,p=some m-> ∃h:i - 1 < s.length,s[i - 1].1=m)->jjx (sbs s) (vi (s.length:Nat)) (vi (i:Nat)) (sbs s)=some (vb (ZM p (s.drop i) && decide (s.length<=12)),[])) (n:=s.length) ?_ ?_ 0 (Nat.zero_le _) none (by simp) (λm h=>by cases h)
 ·simp only [Int.natCast_zero,List.drop_zero] at key;rw [jeb] at key;rw [g28];simp only [jf,key]
 ·intro p _ _;have e:decide (((s.length:Nat):Int)<=12)=decide (s.length<=12):=by congr 1;exact propext (by omega)
  have:ZM p []=true:=by cases p<;>rfl
  rw [jrp,List.drop_length,this,Bool.true_and,<-e];simp only [jf]
 ·intro i hi ih p hp hq;have hlt:(i:Int) < ((s.length:Nat):Int):=by omega
  have h5:=jz hi (by show s.length<=9223372036854775807;omega)
  have hm:=hs.2 _ (List.getElem_mem hi);have e1:=ZW s[i].1 (by show s[i].1.length<=9223372036854775807;omega);have e2:=KY s[i].2 hm.2.wf hm.2;have ih:=ih (some s[i].1) (by simp) (λm h=>by cases h;exact ⟨by simpa using hi,rfl⟩);rw [jrp,jl hi];have e3:decide (s[i].2.name=s[i].1)=decide (s[i].2.name=s[i].1):=rfl;generalize hn:decide (s[i].2.name=s[i].1)=nn at *;have e4:js .eql false (sv s[i].2.name) (sv s[i].1)=some (vb nn):=by rw [QJ,hn]
  generalize hv:ZM (some s[i].1) (s.drop (i+1))=vv at *;cases p with
  | none=>
   have h0:¬(0:Int) < (i:Int):=by have:=hp.1 rfl;omega
   rw [ZM,hn,hv];cases hb:ju s[i].1<;>rw [hb] at e1
   ·simp only [jf,hlt,jb hi,JG,e1,Bool.false_and]
   cases hk:kD s[i].2<;>rw [hk] at e2
   ·simp only [jf,hlt,jb hi,JG,e1,e2,h0,Bool.false_and,Bool.true_and]
   cases nn
   ·simp only [jf,hlt,jb hi,JG,e1,e2,h0,e4,h5,ih,Bool.true_and]
   ·simp only [jf,hlt,jb hi,JG,e1,e2,h0,e4,Bool.false_and,Bool.true_and]
  | some m=>
   obtain ⟨hq1,rfl⟩:=hq m rfl;have h0:(0:Int) < (i:Int):=by
    have:¬i=0:=λh=>by have:=hp.2 h;cases this
    omega
   have c1:ck ((i:Int) - 1)=some (vi ((i - 1:Nat):Int)):=by rw [show (i:Int) - 1=((i - 1:Nat):Int) by omega];exact jE (by omega) (by omega)
   have e5:=jlM false s[i].1 s[i - 1].1;rw [ZM,hn,hv];cases hb:ju s[i].1<;>rw [hb] at e1
   ·rw [Bool.false_and,Bool.and_false];simp only [jf,hlt,jb hi,JG,e1,Bool.false_and]
   cases hc:kQ s[i - 1].1 s[i].1<;>rw [hc] at e5
   ·simp only [jf,hlt,jb hi,jb hq1,JG,zw,kS,e1,h0,c1,e5,Bool.false_and]
   cases hk:kD s[i].2<;>rw [hk] at e2
   ·simp only [jf,hlt,jb hi,jb hq1,JG,zw,kS,e1,h0,c1,e5,e2,Bool.false_and,Bool.true_and]
   cases nn
   ·simp only [jf,hlt,jb hi,jb hq1,JG,zw,kS,e1,h0,c1,e5,e2,e4,h5,ih,Bool.true_and]
   ·simp only [jf,hlt,jb hi,jb hq1,JG,zw,kS,e1,h0,c1,e5,e2,e4,Bool.false_and,Bool.true_and]
theorem jmq (s:jk) (hs:SzB s):G 24 [sb s]=some (vb (kC s),[]):=by
 have hl:=hs.1;have key:=upto (P:=λi=>∀p:Option (List UInt8),(p=none↔i=0)->(∀m,p=some m-> ∃h:i - 1 < s.length,s[i - 1].1=m)->jjt (vi (i:Nat)) (sbs s)=some (vb (ZM p (s.drop i) && decide (s.length<=12)),[])) (n:=s.length) ?_ ?_ 0 (Nat.zero_le _) none (by simp) (λm h=>by cases h)
 ·simp only [Int.natCast_zero,List.drop_zero] at key;rw [jeb] at key;rw [g24];simp only [jf,key]
 ·intro p _ _;have e:decide (((s.length:Nat):Int)<=12)=decide (s.length<=12):=by congr 1;exact propext (by omega)
  have:ZM p []=true:=by cases p<;>rfl
  rw [jrj,List.drop_length,this,Bool.true_and,<-e];simp only [jf]
 ·intro i hi ih p hp hq;have hlt:(i:Int) < ((s.length:Nat):Int):=by omega
  have h5:=jz hi (by show s.length<=9223372036854775807;omega)
  have hm:=hs.2 _ (List.getElem_mem hi);have e1:=JZ s[i].1 (by show s[i].1.length<=9223372036854775807;omega);have e2:=jdy s[i].2 hm.2.wf hm.2;have ih:=ih (some s[i].1) (by simp) (λm h=>by cases h;exact ⟨by simpa using hi,rfl⟩);rw [jrj,jl hi];generalize hn:decide (s[i].2.name=s[i].1)=nn at *;have e4:js .eql false (sv s[i].2.name) (sv s[i].1)=some (vb nn):=by rw [QJ,hn]
  generalize hv:ZM (some s[i].1) (s.drop (i+1))=vv at *;cases p with
  | none=>
   have h0:¬(0:Int) < (i:Int):=by have:=hp.1 rfl;omega
   rw [ZM,hn,hv];cases hb:ju s[i].1<;>rw [hb] at e1
   ·simp only [jf,hlt,jb hi,JG,e1,Bool.false_and]
   cases hk:kD s[i].2<;>rw [hk] at e2
   ·simp only [jf,hlt,jb hi,JG,e1,e2,h0,Bool.false_and,Bool.true_and]
   cases nn
   ·simp only [jf,hlt,jb hi,JG,e1,e2,h0,e4,h5,ih,Bool.true_and]
   ·simp only [jf,hlt,jb hi,JG,e1,e2,h0,e4,Bool.false_and,Bool.true_and]
  | some m=>
   obtain ⟨hq1,rfl⟩:=hq m rfl;have h0:(0:Int) < (i:Int):=by
    have:¬i=0:=λh=>by have:=hp.2 h;cases this
    omega
   have c1:ck ((i:Int) - 1)=some (vi ((i - 1:Nat):Int)):=by rw [show (i:Int) - 1=((i - 1:Nat):Int) by omega];exact jE (by omega) (by omega)
   have e5:=jlL false s[i - 1].1 s[i].1;rw [ZM,hn,hv];cases hb:ju s[i].1<;>rw [hb] at e1
   ·rw [Bool.false_and,Bool.and_false];simp only [jf,hlt,jb hi,JG,e1,Bool.false_and]
   cases hk:kD s[i].2<;>rw [hk] at e2
   ·rw [Bool.false_and,Bool.and_false,Bool.and_false];simp only [jf,hlt,jb hi,jb hq1,JG,zw,kS,e1,e2,Bool.false_and,Bool.true_and]
   cases nn
   ·cases hc:kQ s[i - 1].1 s[i].1<;>rw [hc] at e5
    ·simp only [jf,hlt,jb hi,jb hq1,JG,zw,kS,e1,h0,c1,e5,e2,e4,Bool.false_and]
    ·simp only [jf,hlt,jb hi,jb hq1,JG,zw,kS,e1,h0,c1,e5,e2,e4,h5,ih,Bool.true_and]
   ·rw [Bool.not_true,Bool.false_and,Bool.and_false,Bool.and_false,Bool.and_false];simp only [jf,hlt,jb hi,jb hq1,JG,zw,kS,e1,h0,c1,e5,e2,e4,Bool.false_and,Bool.true_and]
theorem jfc {α:Type} {R:α->α->Prop} (irr:∀a,¬R a a) (asy:∀a b,R a b-> ¬R b a):∀ {l m:List α},l.Pairwise R->m.Pairwise R->(∀x,x∈l↔x∈m)->l=m
 | [],[],_,_,_=>rfl
 | [],b::m,_,_,hx=>absurd ((hx b).2 (by simp)) (by simp)
 | a::l,[],_,_,hx=>absurd ((hx a).1 (by simp)) (by simp)
 | a::l,b::m,h1,h2,hx=>by
  obtain ⟨g1,g2⟩:=List.pairwise_cons.1 h1;obtain ⟨k1,k2⟩:=List.pairwise_cons.1 h2;have hab:a=b:=by
   rcases List.mem_cons.1 ((hx a).1 (by simp)) with e|e
   ·exact e
   rcases List.mem_cons.1 ((hx b).2 (by simp)) with e'|e'
   ·exact e'.symm
   ·exact (asy _ _ (k1 a e) (g1 b e')).elim
  subst hab;have:l=m:=jfc irr asy g2 k2 λx=>by
   constructor
   ·intro hxl;rcases List.mem_cons.1 ((hx x).1 (by simp [hxl])) with e|e
    ·exact (irr x (e ▸ g1 x hxl)).elim
    ·exact e
   ·intro hxm;rcases List.mem_cons.1 ((hx x).2 (by simp [hxm])) with e|e
    ·exact (irr x (e ▸ k1 x hxm)).elim
    ·exact e
  rw [this]
theorem qR {x y z:List UInt8} (h1:kQ x y=true) (h2:kQ y z=true):kQ x z=true:=by
 rw [Yn,decide_eq_true_eq] at *;exact List.lt_trans h1 h2
theorem jjN:∀ {s:jk},jez s=true->s.Pairwise λp q=>kQ p.1 q.1=true
 | [],_=>List.Pairwise.nil
 | [p],_=>by simp
 | p::q::s,h=>by
  rw [jez,Bool.and_eq_true] at h;have ih:=jjN h.2;refine List.pairwise_cons.2 ⟨λx hx=> ?_,ih⟩;rcases List.mem_cons.1 hx with e|e
  ·rw [e];exact h.1
  ·exact qR h.1 ((List.pairwise_cons.1 ih).1 x e)
theorem jud {m:Nat} (h:m<=2000000):qy .u64 (vi (m:Nat))=some (.val (.int .u64 (m:Nat))):=by
 show some (A.val (.int .u64 (IntKind.u64.wrap (m:Nat))))=_;have:IntKind.u64.wrap ((m:Nat):Int)=(m:Nat):=by
  unfold IntKind.wrap;simp [IntKind.bits,IntKind.signed];omega
 rw [this]
theorem jue {m:Nat} (h:m<=2000000):js .shr false (.val (.int .u64 (m:Nat))) (.val (.int .u64 1))=some (.val (.int .u64 ((m / 2:Nat):Int))):=by
 show some (A.val (.int .u64 (((m:Nat):Int).fdiv (2 ^ min 1 64))))=_;rw [Int.fdiv_eq_ediv_of_nonneg _ (by decide)];rfl
theorem juf {m:Nat} (h:m<=2000000):qy .i64 (.val (.int .u64 (m:Nat)))=some (vi (m:Nat)):=jE (by omega) (by omega)
theorem jjU (x y:List UInt8):j4 x y < 0↔kQ x y=true:=by
 unfold j4;cases h:kQ x y with
 | true=>simp
 | false=>
  rw [if_neg Bool.false_ne_true];split<;>simp
theorem jhE (q:List UInt8 × T) (n:List UInt8):G 133 [.agg (bc q),sv n]=some (vi (j4 q.1 n),[]):=by
 have e:=KQ q.1 n;rw [jv5];simp only [jf,e]
theorem jah {s:jk} (hs:s.Pairwise λp q=>kQ p.1 q.1=true) {n:List UInt8} {i:Nat} (h1:∀k,(h:k < s.length)->k < i->kQ s[k].1 n=true) (h2:∀k,(h:k < s.length)->i<=k->kQ s[k].1 n=false):look s n=if h:i < s.length then (if s[i].1=n then some s[i].2 else none) else none:=by
 have hne:∀k,(h:k < s.length)->k≠i->s[k].1≠n:=λk h hk e=>by
  rcases Nat.lt_or_ge k i with hl|hl
  ·have:=h1 k h hl;rw [e,Jz] at this;cases this
  ·have hi:i < k:=by omega
   have:=(List.pairwise_iff_getElem.1 hs) i k (by omega) h hi;rw [e] at this;rw [h2 i (by omega) (Nat.le_refl _)] at this;cases this
 split
 ·rename_i hi;split
  ·rename_i he;have hm:(n,s[i].2)∈s:=by rw [<-he];exact List.getElem_mem hi
   cases hl:look s n with
   | none=>exact (zL.1 hl _ hm rfl).elim
   | some r=>
    obtain ⟨k,hk,e⟩:=List.mem_iff_getElem.1 (ye hl);have:k=i:=Classical.byContradiction λh=>hne k hk h (by rw [e]);subst this;rw [e]
  ·rename_i he;refine zL.2 λp hp=> ?_;obtain ⟨k,hk,rfl⟩:=List.mem_iff_getElem.1 hp;by_cases h:k=i
   ·subst h;exact he
   ·exact hne k hk h
 ·rename_i hi;refine zL.2 λp hp=> ?_;obtain ⟨k,hk,rfl⟩:=List.mem_iff_getElem.1 hp;exact hne k hk (by omega)
theorem jhx (s:jk) (hl:s.length<=1000000) (hs:s.Pairwise λp q=>kQ p.1 q.1=true) (n:List UInt8):∀(d i j:Nat),j - i<=d->i<=j->j<=s.length->(∀k,(h:k < s.length)->k < i->kQ s[k].1 n=true)->(∀k,(h:k < s.length)->j<=k->kQ s[k].1 n=false)->
  ∃(i':Nat) (b:Bool),jbi (sbs s) (sv n) (.fn 133 []) (vi (s.length:Nat)) (vi (i:Nat)) (vi (j:Nat))=some (.tup [vi (i':Nat),vb b],[])/\look s n=(if h:i' < s.length then (if b then some s[i'].2 else none) else none)/\(b=true->i' < s.length):=by
 intro d;induction d with
 | zero=>
  intro i j hd hij hj h1 h2;have hij:i=j:=by omega
  subst hij;have hlt:¬(i:Int) < (i:Int):=by omega
  have hp:K.pureF 133=true:=rfl;rw [jnJ];by_cases hi:i < s.length
  ·have hi':(i:Int) < ((s.length:Nat):Int):=by omega
   have cc:DX.run K (MM K) (.callc (.fn 133 []) [.agg (bc s[i]),sv n] false)=some (vi (j4 s[i].1 n)):=by
    rw [qb hp,List.append_nil,jhE];rfl
   refine ⟨i,decide (s[i].1=n),?_,?_,λ_=>hi⟩
   ·have hz:decide (j4 s[i].1 n=0)=decide (s[i].1=n):=decide_eq_decide.2 (qd.zero _ _);rw [<-hz];simp only [jf,hlt,hi',jb hi,JG,cc]
   ·rw [jah hs h1 h2,dif_pos hi,dif_pos hi];by_cases he:s[i].1=n
    ·rw [if_pos he,decide_eq_true he,if_pos rfl]
    ·rw [if_neg he,decide_eq_false he,if_neg Bool.false_ne_true]
  ·have hi':¬(i:Int) < ((s.length:Nat):Int):=by omega
   refine ⟨i,false,?_,?_,λh=>by cases h⟩
   ·simp only [jf,hlt,hi']
   ·rw [jah hs h1 h2,dif_neg hi,dif_neg hi]
 | succ d ih=>
  intro i j hd hij hj h1 h2;by_cases hlt0:i < j;rotate_left
  ·exact ih i j (by omega) hij hj h1 h2
  have hlt:(i:Int) < (j:Int):=by omega
  have hp:K.pureF 133=true:=rfl;have hm:(i+j) / 2 < s.length:=by omega
  have c0:ck ((i:Int)+(j:Int))=some (vi ((i+j:Nat):Int)):=jE (by omega) (by omega);have c1:=jud (m:=i+j) (by omega);have c2:=jue (m:=i+j) (by omega);have c3:=juf (m:=(i+j) / 2) (by omega);have cc:DX.run K (MM K) (.callc (.fn 133 []) [.agg (bc s[(i+j) / 2]),sv n] false)=some (vi (j4 s[(i+j) / 2].1 n)):=by
   rw [qb hp,List.append_nil,jhE];rfl
  have ix:=jb (k:=3) (f:=bc) hm;have hpw:=List.pairwise_iff_getElem.1 hs;rw [jnJ];have hc:=jjU s[(i+j) / 2].1 n;generalize hg:j4 s[(i+j) / 2].1 n=c at *;generalize hme:(i+j) / 2=m at *;by_cases hneg:c < 0
  ·have hs1:=hc.1 hneg;have h5:ck ((m:Int)+1)=some (vi ((m+1:Nat):Int)):=jE (by omega) (by omega);have:=ih (m+1) j (by omega) (by omega) hj (λk hk hk2=>by
    by_cases e:k=m
    ·subst e;exact hs1
    ·exact qR (hpw k m hk hm (by omega)) hs1) h2
   obtain ⟨i',b,e1,e2⟩:=this;exact ⟨i',b,by simp only [jf,hlt,c0,c1,c2,c3,ix,JG,cc,hneg,h5];exact e1,e2⟩
  ·have hs1:kQ s[m].1 n=false:=by
    cases h:kQ s[m].1 n with
    | false=>rfl
    | true=>exact (hneg (hc.2 h)).elim
   have:=ih i m (by omega) (by omega) (by omega) h1 (λk hk hk2=>by
    by_cases e:k=m
    ·subst e;exact hs1
    ·cases h:kQ s[k].1 n with
     | false=>rfl
     | true=>rw [qR (hpw m k hm hk (by omega)) h] at hs1;cases hs1)
   obtain ⟨i',b,e1,e2⟩:=this;exact ⟨i',b,by simp only [jf,hlt,c0,c1,c2,c3,ix,JG,cc,hneg];exact e1,e2⟩
def outT (o:Option T):Option Out:=match o with|some t=>some (.tup [tm t,vb true],[])|none=>some (.tup [.agg [sv [],.sl 2 []],vb false],[])
theorem ji5 (s:jk) (hs:kC s=true) (n:List UInt8):G 116 [sb s,sv n]=outT (look s n):=by
 have hl:=(kY hs).1;obtain ⟨i,b,e1,e2,e3⟩:=jhx s (by omega) (jjN (kY hs).2.1) n s.length 0 s.length (by omega) (Nat.zero_le _) (Nat.le_refl _) (λk _ h=>by omega) (λk h1 h2=>by omega);simp only [Int.natCast_zero] at e1;have e4:G 132 [sbs s,sv n,.fn 133 []]=some (.tup [vi (i:Nat),vb b],[]):=by
  rw [jv4];simp only [jf,e1]
 rw [jvZ,e2];cases b with
 | false=>
  have:(if h:i < s.length then (if false=true then some s[i].2 else none) else none)=(none:Option T):=by split<;>simp
  rw [this];simp only [jf,e4];rfl
 | true=>
  have hi:=e3 rfl;rw [dif_pos hi,if_pos rfl];simp only [jf,e4,jb hi,zw,Yi];rfl
theorem jk1 (s:jk) (hs:kC s=true):∀t:T,Rx' t->Tz t->G 91 [sb s,tm t]=some (tm (sub s t),[]):=by
 refine T.ind λt ih hk ht=> ?_;have hz:=ht;unfold Tz at hz;rw [jY] at hz;rw [g91];by_cases ha:t.args = []
 ·have e1:=ji5 s hs t.name;have h0:yq (j6 t.args)=some (vi 0):=by rw [ha];rfl
  cases hl:look s t.name with
  | some r=>
   rw [hl] at e1;have e1:G 116 [sb s,sv t.name]=some (.tup [tm r,vb true],[]):=e1;have hv:ju t.name=true:=((kY hs).2.2 _ (ye hl)).1;have e2:=KR r ((jmr hs).2 _ (ye hl)).2;have:sub s t=r:=by rw [yG hv,JK,hl];rfl
   rw [this];simp only [jf,h0,e1,e2]
  | none=>
   rw [hl] at e1;have e1:G 116 [sb s,sv t.name]=some (.tup [.agg [sv [],.sl 2 []],vb false],[]):=e1;have:sub s t = .mk t.name []:=by
    cases hv:ju t.name with
    | true=>rw [yG hv,JK,hl];rfl
    | false=>rw [yh hv,ha];rfl
   rw [this];simp only [jf,h0,e1];rfl
 ·have hv:ju t.name=false:=by
   cases hv:ju t.name with
   | false=>rfl
   | true=>exact (ha (hk.va hv)).elim
  have hpos:0 < t.args.length:=by
   cases h:t.args with
   | nil=>exact (ha h).elim
   | cons _ _=>simp
  have h0:¬((t.args.length:Nat):Int)=0:=by omega
  rw [yh hv];generalize hus:t.args.map (sub s)=us at *;have hul:us.length=t.args.length:=by rw [<-hus,List.length_map]
  have hm:=jdN (b:=40) (n:=t.args.length) (by omega) (by omega);have hz0:(0:Int) < ((t.args.length:Nat):Int):=by omega
  have step:∀i,(hi:i < t.args.length)->G 91 [sb s,tm t.args[i]]=some (tm (us[i]'(by omega)),[]):=λi hi=>by
   rw [ih t.args[i] (List.getElem_mem _) (hk.args _ (List.getElem_mem _)) (ht.args _ (List.getElem_mem _))];simp only [<-hus,List.getElem_map]
  have stepR:∀i,(hi:i < t.args.length)->KE (part jx [sv [],.sl 2 []] us i).length (vi (i:Nat))=some i/\jc9 (part jx [sv [],.sl 2 []] us i) i=some [sv [],.sl 2 []]/\Jd (part jx [sv [],.sl 2 []] us i) i [sv (us[i]'(by omega)).name,j6 (us[i]'(by omega)).args]=part jx [sv [],.sl 2 []] us (i+1):=λi hi=>by
   have h4:=jg8 (f:=jx) (z:=[sv [],.sl 2 []]) (xs:=us) (i:=i) (by omega);rw [ku] at h4;refine ⟨ze (by rw [jam (by omega)];omega),jg7 (by omega),h4⟩
  have key:=(upto (P:=λi=>1<=i->jmT (j6 t.args) (vi (t.args.length:Nat)) (vi (i:Nat)) (sbs s) (sv []) (sv t.name) [] (part jx [sv [],.sl 2 []] us i)=some (tm (.mk t.name us),[])) (n:=t.args.length) ?_ ?_ 1 hpos (Nat.le_refl _));rotate_left
  ·intro _;rw [jrJ,<-hul,jg6];simp only [jf];rfl
  ·intro i hi ih' _;have hlt:(i:Int) < ((t.args.length:Nat):Int):=by omega
   have h5:=jz hi (by show t.args.length<=9223372036854775807;omega)
   have e2:=step i hi;obtain ⟨h2,h3,h4⟩:=stepR i hi;have ih':=ih' (by omega);rw [jrJ];simp only [jf,hlt,jb hi,jg,e2,h2,h3,YL,h4,h5,ih']
  have e2:=step 0 hpos;obtain ⟨h2,h3,h4⟩:=stepR 0 hpos;rw [<-jdP] at h2 h3 h4;simp only [Int.natCast_zero,Nat.zero_add] at h2 h4 key;have ix:=jb (k:=2) (f:=jx) hpos;simp only [Int.natCast_zero] at ix;have h5:ck (0+1)=some (vi ((1:Nat):Int)):=jE (n:=0+1) (by omega) (by omega);have first:jmS (j6 t.args) (vi (t.args.length:Nat)) (vi 0) (sbs s) (sv []) (sv t.name) (KA us.length [sv [],.sl 2 []]) []=some (tm (.mk t.name us),[]):=by
   rw [jul];simp only [jf,hz0,ix,jg,e2,h2,h3,YL,h4,h5,key]
  rw [hul] at first
  simp only [jf,h0,hm,first]
def AxT (t:T):Prop:=zt t=true\/(t.name = [61]/\t.args.length=2/\ ∀u∈t.args,zt u=true)
theorem AxT.rx {t:T} (h:AxT t):Rx' t:=h.elim Or.inl λh=>Or.inr ⟨h.1,h.2.2⟩
theorem AxT.tz {t:T} (h:AxT t) (hn:nodes t<=100000):Tz t:=by
 rcases h with h|h
 ·have:=Yg t h;unfold Tz;omega
 ·unfold Tz;rw [jN] at hn;rw [jY,h.1,h.2.1];have:=jku h.2.2;simp only [List.length_cons,List.length_nil];omega
theorem AxT.sub {s:jk} (hs:kC s=true) {t:T} (h:AxT t):AxT (sub s t):=by
 rcases h with h|h
 ·exact Or.inl (QT (jeg hs) t h)
 ·have hvn:ju t.name=false:=by rw [h.1];decide
  right;rw [yh hvn];refine ⟨h.1,by show (t.args.map _).length=2;rw [List.length_map,h.2.1],λu hu=> ?_⟩;obtain ⟨a,ha,rfl⟩:=List.mem_map.1 hu;exact QT (jeg hs) a (h.2.2 a ha)
theorem AxT.sub_tz {s:jk} (hs:kC s=true) {t:T} (h:AxT t) (hn:nodes t<=3000):Tz (Go.Proofs.YtdbgbieenhcldaaGreat.sub s t):=by
 have:=jmd (u:=s) (Z:=30) (by decide) (Qm hs) t;exact (h.sub hs).tz (by omega)
theorem jfT (s:jk) (hs:kC s=true) (t:T) (h:AxT t) (hn:nodes t<=3000):G 56 [sb s,tm t]=outT (if ko (sub s t) then some (sub s t) else none):=by
 have ht:=h.tz (by omega);have hu:=h.sub_tz hs hn;have e1:=jk1 s hs t h.rx ht;have e2:=Z9 (sub s t) hu.wf hu;rw [g56];cases hsm:ko (sub s t)<;>rw [hsm] at e2
 ·rw [if_neg Bool.false_ne_true];simp only [jf,e1,e2];rfl
 ·rw [if_pos rfl];simp only [jf,e1,e2];rfl
abbrev LtB (p q:List UInt8 × T):Prop:=kQ p.1 q.1=true
theorem jao (n:List UInt8) (t:T):∀s:jk,s.Pairwise LtB->(∀q∈s,q.1≠n)->(Jo s n t).Pairwise LtB
 | [],_,_=>by unfold Jo;simp
 | p::s,h,hn=>by
  obtain ⟨h1,h2⟩:=List.pairwise_cons.1 h;cases hc:kQ p.1 n with
  | true=>
   have e:Jo (p::s) n t=p::Jo s n t:=by
    unfold Jo;rw [List.takeWhile_cons_of_pos (p:=λp:List UInt8 × T=>kQ p.1 n) hc,List.dropWhile_cons_of_pos (p:=λp:List UInt8 × T=>kQ p.1 n) hc,List.cons_append]
   rw [e];refine List.pairwise_cons.2 ⟨λx hx=> ?_,jao n t s h2 λq hq=>hn q (by simp [hq])⟩;rcases jct.1 hx with hx|hx
   ·exact h1 x hx
   ·rw [hx];exact hc
  | false=>
   have e:Jo (p::s) n t=(n,t)::p::s:=by
    unfold Jo;rw [List.takeWhile_cons_of_neg (p:=λp:List UInt8 × T=>kQ p.1 n) (by simp [hc]),List.dropWhile_cons_of_neg (p:=λp:List UInt8 × T=>kQ p.1 n) (by simp [hc])];rfl
   have hlt:kQ n p.1=true:=by
    have h3:=jfj n p.1;rw [hc] at h3;have h4:decide (n=p.1)=false:=decide_eq_false λe=>hn p (by simp) e.symm;rw [h4,Bool.or_false] at h3;exact h3
   rw [e];refine List.pairwise_cons.2 ⟨λx hx=> ?_,h⟩;rcases List.mem_cons.1 hx with e|e
   ·rw [e];exact hlt
   ·exact qR hlt (h1 x e)
theorem zM:∀(m s:jk),s.Pairwise LtB->(m.map Prod.fst).Nodup->(∀p∈m,∀q∈s,q.1≠p.1)->(m.foldl (λs p=>Jn s p.1 p.2) s).Pairwise LtB
 | [],s,h,_,_=>h
 | p::m,s,h,hn,hd=>by
  rw [List.map_cons,List.nodup_cons] at hn;rw [List.foldl_cons];by_cases he:p.2.name=p.1
  ·have:Jn s p.1 p.2=s:=if_pos he;rw [this];exact zM m s h hn.2 λq hq r hr=>hd q (by simp [hq]) r hr
  ·have:Jn s p.1 p.2=Jo s p.1 p.2:=if_neg he;rw [this];refine zM m _ (jao p.1 p.2 s h (hd p (by simp))) hn.2 λq hq r hr=> ?_;rcases jct.1 hr with hr|hr
   ·exact hd q (by simp [hq]) r hr
   ·rw [hr];intro e;exact hn.1 (List.mem_map.2 ⟨q,hq,e.symm⟩)
theorem Yj:∀(m s:jk),m.foldl (λs p=>Jn s p.1 p.2) s=(m.filter λp=> !decide (p.2.name=p.1)).foldl (λs p=>Jn s p.1 p.2) s
 | [],s=>rfl
 | p::m,s=>by
  rw [List.foldl_cons,List.filter_cons];by_cases he:p.2.name=p.1
  ·rw [if_neg (by simp [he]),show Jn s p.1 p.2=s from if_pos he];exact Yj m s
  ·rw [if_pos (by simp [he]),List.foldl_cons];exact Yj m _
theorem jfl {l s:jk} (hn:(l.map Prod.fst).Nodup) (hk:∀p∈l,p.2.name≠p.1) (hp:s.Perm l) (hs:s.Pairwise λa b=>¬j4 b.1 a.1 < 0):s=jR l:=by
 have h1:=zM l [] List.Pairwise.nil hn λp _ q h=>by cases h
 have h2:=(yt l [] hk).2;refine jfc (R:=LtB) (λa h=>by unfold LtB at h;rw [Jz] at h;cases h) (λa b h h'=>by have:=qR h h';rw [Jz] at this;cases this) ?_ h1 λx=> ?_
 ·have hne:s.Pairwise λa b=>a.1≠b.1:=by
   have:(s.map Prod.fst).Nodup:=(hp.map Prod.fst).nodup_iff.2 hn;rw [List.nodup_iff_pairwise_ne] at this;exact List.pairwise_map.1 this
  refine (hs.and hne).imp λ{a b} h=> ?_;have h3:=jfj a.1 b.1;rw [decide_eq_false h.2,Bool.or_false] at h3;show kQ a.1 b.1=true;rw [h3];cases hc:kQ b.1 a.1 with
  | false=>rfl
  | true=>exact (h.1 ((jjU _ _).2 hc)).elim
 ·rw [hp.mem_iff];have:=h2 x;simp only [List.not_mem_nil,false_or] at this;exact this.symm
def jus (o:Option jk):Option Out:=match o with|some s=>some (.tup [sb s,vb true],[])|none=>some (.tup [.agg [.sl 3 []],vb false],[])
theorem jux {n:Nat} (h:n<=1000000):jJ n 56=true:=je7 (by omega)
def jW (l:jk):jk:=l.filter λp=> !decide (p.2.name=p.1)
def jwG (s u:jk):jk:=jW (s.map λq=>(q.1,sub u q.2))++u.filter λq=>(look s q.1).isNone
structure Mdl where
 M:List UInt8->List Int->Int
 Q:List UInt8->List Int->Bool
 good:Int->Prop
 ok:∀n vs,good (M n vs)
def zn (m:Mdl) (e:List UInt8->Int) (t:T):Bool:=if t.name = [61]/\t.args.length=2 then decide (val m.M e (J0 t)=val m.M e (J5 t)) else m.Q t.name (t.args.map (val m.M e))
def clV (m:Mdl) (e:List UInt8->Int) (c:j7):Prop:=∃l∈c,zn m e l.2=l.1
def jmP (m:Mdl) (e:List UInt8->Int):Prop:=∀x,m.good (e x)
def trM (m:Mdl) (c:j7):Prop:=∀e,jmP m e->clV m e c
def Sd (ps:List j7) (x:j7):Prop:=∀m:Mdl,(∀c∈ps,trM m c)->trM m x
theorem jey {t:T} (h:t.args.length=2):t.args = [J0 t,J5 t]:=by
 obtain ⟨n,us⟩:=t
 match us,h with
 | [a,b],_=>rfl
theorem jsD {t:T} (h:t.args.length=2):J0 t∈t.args/\J5 t∈t.args:=by
 obtain ⟨n,us⟩:=t
 match us,h with
 | [a,b],_=>exact ⟨List.mem_cons_self ..,List.mem_cons_of_mem _ (List.mem_cons_self ..)⟩
theorem jgl {m:Mdl} {e e':List UInt8->Int} {a b:T} (hn:a.name=b.name) (hv:a.args.map (val m.M e)=b.args.map (val m.M e')):zn m e a=zn m e' b:=by
 have hl:a.args.length=b.args.length:=by have:=congrArg List.length hv;simpa using this
 unfold zn;rw [hn,hl];by_cases c:b.name = [61]/\b.args.length=2
 ·rw [if_pos c,if_pos c];have ha:=jey (t:=a) (by rw [hl];exact c.2);have hb:=jey c.2;rw [ha,hb] at hv;simp only [List.map_cons,List.map_nil,List.cons.injEq] at hv;rw [hv.1,hv.2.1]
 ·rw [if_neg c,if_neg c,hv]
section
variable (m:Mdl)
theorem jny (u:jk) (e:List UInt8->Int) {t:T} (h:Bx t):zn m e (sub u t)=zn m (λx=>val m.M e (JK u x)) t:=by
 have hv:=h.nv;refine jgl (Zk hv) ?_;rw [Zj hv,List.map_map];exact List.map_congr_left λa ha=>jqP u e a (h.args a ha)
theorem jnw {e:List UInt8->Int} (he:jmP m e) (u:jk):jmP m (λx=>val m.M e (JK u x)):=λ_=>jcS m.ok he _
theorem jsk {u:jk} {e:List UInt8->Int} {l:j7} (hb:∀y∈l,Bx y.2) (h:clV m (λx=>val m.M e (JK u x)) l):clV m e (l.map λx=>(x.1,sub u x.2)):=by
 obtain ⟨x,hx,hh⟩:=h;exact ⟨(x.1,sub u x.2),List.mem_map.2 ⟨x,hx,rfl⟩,by show zn m e (sub u x.2)=x.1;rw [jny m u e (hb x hx)];exact hh⟩
variable {m}
end
def jw1 (M:List UInt8->List Int->Int) (e:List UInt8->Int) (s:jk):Prop:=∀q∈s,e q.1=val M e q.2
section
variable {M:List UInt8->List Int->Int} {e:List UInt8->Int}
end
def jxY (p:UInt8) (ns:List (List UInt8)) (x:List UInt8):List UInt8:=match ns.find? (λn=>decide (Q4 p ns n=x)) with|some n=>n|none=>x
section
variable {m:Mdl}
end
def Agr (f:List UInt8->List UInt8) (m:jk):Prop:=∀n r,look m n=some r->r = .mk (f n) []
mutual
theorem jsG {f:List UInt8->List UInt8} :∀(a:T) {m:jk},Agr f m-> ∃m',mt m a (zX f a)=some m'/\Agr f m'
 | .mk n us,m,hm=>by
  rw [zX];cases hv:ju n with
  | true=>
   rw [if_pos rfl,Jb (p:= .mk n us) hv];show ∃m',(match look m n with|some r=>if dq r (.mk (f n) []) then some m else none|none=>some (m++[(n,.mk (f n) [])]))=some m'/\Agr f m';cases hl:look m n with
   | some r=>
    have e:=hm n r hl;refine ⟨m,?_,hm⟩;show (if dq r (.mk (f n) [])=true then some m else none)=some m;rw [e,Kd,if_pos rfl]
   | none=>
    refine ⟨m++[(n,.mk (f n) [])],rfl,λx r hx=> ?_⟩;rw [Jv] at hx;cases hlx:look m x with
    | some r'=>
     rw [hlx] at hx;cases hx;exact hm x _ hlx
    | none=>
     rw [hlx] at hx;have hi:=ye hx;have e:=List.mem_singleton.1 hi;cases e;rfl
  | false=>
   have hl:us.length=(kX f us).length:=by rw [Zc,List.length_map]
   rw [if_neg Bool.false_ne_true,yP (p:= .mk n us) hv];show ∃m',(if n=n/\us.length=(kX f us).length then yw m us (kX f us) else none)=some m'/\Agr f m';rw [if_pos ⟨rfl,hl⟩];exact jks us hm
theorem jks {f:List UInt8->List UInt8} :∀(us:List T) {m:jk},Agr f m-> ∃m',yw m us (kX f us)=some m'/\Agr f m'
 | [],m,hm=>⟨m,by rw [yw],hm⟩
 | u::us,m,hm=>by
  obtain ⟨m1,e1,h1⟩:=jsG u hm;obtain ⟨m2,e2,h2⟩:=jks us h1;refine ⟨m2,?_,h2⟩;rw [kX,yw];show (mt m u (zX f u)).bind _=_;rw [e1];exact e2
end
noncomputable def jda (d:j7):List Lt->jk->Option jk
 | [],m=>some m
 | l::c,m=>d.findSome? λx=>if x.1=l.1 then (mt m l.2 x.2).bind λm'=>jda d c m' else none
mutual
theorem joz {f g:List UInt8->List UInt8} (hf:∀n,ju n=true->ju (f n)=true):∀t:T,zX g (zX f t)=zX (λn=>g (f n)) t
 | .mk n us=>by
  rw [zX,zX];cases hv:ju n with
  | true=>
   rw [if_pos rfl,if_pos rfl,zX,if_pos (hf n hv)]
  | false=>
   rw [if_neg Bool.false_ne_true,if_neg Bool.false_ne_true,zX,hv,if_neg Bool.false_ne_true,jdW hf us]
theorem jdW {f g:List UInt8->List UInt8} (hf:∀n,ju n=true->ju (f n)=true):∀ts:List T,kX g (kX f ts)=kX (λn=>g (f n)) ts
 | []=>rfl
 | t::ts=>by rw [kX,kX,kX,joz hf t,jdW hf ts]
end
theorem jfR {rem:List (List A)} {z:Option Out} {g:List A->List (List A)->Option Out} {o:Out} (hz:rem = []->z=some o) (h:∀i x,rem[i]? = some x->g x (rem.eraseIdx i)=some o):allR rem z g=some o:=by
 cases rem with
 | nil=>exact hz rfl
 | cons x xs=>exact (JO (by simp)).2 h
def z6 (m:jk):jk:=m.mergeSort λp q=>decide (p.1<=q.1)
theorem jpq (m:jk):jid (m.map kv)=(z6 m).map kv:=by
 symm;refine List.map_mergeSort λp _ q _=> ?_;show decide (p.1<=q.1)=decide (bs _<=bs _);refine decide_eq_decide.2 ?_;simp
theorem qM (m:jk):(z6 m).Perm m:=List.mergeSort_perm m _
theorem JU {m:jk} {p:List UInt8 × T} :p∈z6 m↔p∈m:=(qM m).mem_iff
theorem jbt {m:jk} (h:(m.map Prod.fst).Nodup):((z6 m).map Prod.fst).Nodup:=((qM m).map Prod.fst).nodup_iff.2 h
theorem jf2 {m m':jk} (h:m.Perm m') (hn:(m.map Prod.fst).Nodup):z6 m=z6 m':=by
 have st:∀l:jk,(l.map Prod.fst).Nodup->(z6 l).Pairwise λa b=>a.1<=b.1/\a.1≠b.1:=λl hl=>by
  have h1:(z6 l).Pairwise λa b=>decide (a.1<=b.1)=true:=List.pairwise_mergeSort (λa b c h1 h2=>by simp only [decide_eq_true_eq] at *;exact List.le_trans h1 h2) (λa b=>by simp only [Bool.or_eq_true,decide_eq_true_eq];exact List.le_total a.1 b.1) l
  have h2:=jbt hl;rw [List.nodup_iff_pairwise_ne] at h2;exact (h1.and (List.pairwise_map.1 h2)).imp λh=>⟨of_decide_eq_true h.1,h.2⟩
 exact jfc (R:=λa b=>a.1<=b.1/\a.1≠b.1) (λa h=>h.2 rfl) (λa b h h'=>h.2 (List.le_antisymm h.1 h'.1)) (st m hn) (st m' ((h.map Prod.fst).nodup_iff.1 hn)) λx=>by rw [JU,JU,h.mem_iff]
theorem jm8:z6 [] = []:=by simp [z6]
theorem jbE {α:Type} {m:List α} {i:Nat} (hi:i < m.length):(m[i]::m.eraseIdx i).Perm m:=by
 rw [List.eraseIdx_eq_take_drop_succ];refine List.perm_middle.symm.trans ?_;rw [<-List.drop_eq_getElem_cons hi,List.take_append_drop]
theorem jb9 {α β:Type} {f:α->β} {m:List α} {i:Nat} {x:β} (h:(m.map f)[i]? = some x):∃hi:i < m.length,x=f m[i]:=by
 rw [List.getElem?_map,Option.map_eq_some_iff] at h;obtain ⟨y,h1,h2⟩:=h;obtain ⟨hi,h3⟩:=List.getElem?_eq_some_iff.1 h1;exact ⟨hi,by rw [h3];exact h2.symm⟩
theorem jdD {α β:Type} (f:α->β) (m:List α) (i:Nat):(m.map f).eraseIdx i=(m.eraseIdx i).map f:=by
 induction m generalizing i with
 | nil=>simp
 | cons a m ih=>cases i with
  | zero=>simp
  | succ i=>simp [ih]
theorem jk7:∀(n:Nat) (m acc:jk),m.length=n->((acc++m).map Prod.fst).Nodup->jaQ ((z6 acc).map kv) (m.map kv)=some (.top,[.sl 128 ((z6 (acc++m)).map kv)]):=by
 intro n;induction n with
 | zero=>
  intro m acc hl _;obtain rfl:=List.length_eq_zero_iff.1 hl;rw [jki,List.append_nil];rfl
 | succ n ih=>
  intro m acc hl hn;rw [jki];refine jfR (λe=>by rw [List.map_eq_nil_iff.1 e] at hl;cases hl) λi x hx=> ?_;obtain ⟨hi,rfl⟩:=jb9 hx;rw [jdD];have hp:=jbE hi;have hl2:(m.eraseIdx i).length=n:=by rw [List.length_eraseIdx,if_pos hi];omega
  generalize m.eraseIdx i=m2 at hp hl2;generalize m[i]=p at hp;have hperm:(acc++m).Perm (acc++[p]++m2):=by
   rw [List.append_assoc];exact (hp.symm).append_left acc
  have hn2:((acc++[p]++m2).map Prod.fst).Nodup:=(hperm.map Prod.fst).nodup_iff.1 hn;have hna:((acc++[p]).map Prod.fst).Nodup:=by
   rw [List.map_append] at hn2;exact (List.nodup_append.1 hn2).1
  have hlook:look (z6 acc) p.1=none:=zL.2 λq hq e=>by
   rw [List.map_append,List.nodup_append] at hna;exact hna.2.2 q.1 (List.mem_map.2 ⟨q,JU.1 hq,rfl⟩) p.1 (by simp) e
  have h1:=QM hlook p.2;have h2:jid ((z6 acc++[p]).map kv)=(z6 (acc++[p])).map kv:=by
   rw [jpq];refine congrArg (λl=>List.map kv l) (jf2 ((qM acc).append_right [p]) ?_);exact (((qM acc).append_right [p]).map Prod.fst).nodup_iff.2 hna
  have h1:je9 none ((z6 acc).map kv) (sv p.1) (.agg [sv p.2.name,j6 p.2.args])=some ((z6 acc++[p]).map kv):=h1;have h3:=ih m2 (acc++[p]) hl2 hn2;rw [jf2 hperm hn];have k0:jiv (kv p)=true:=rfl;have k1:Km (A.tup [jc (kv p) 0,jc (kv p) 1]) 0=some (sv p.1):=rfl;have k2:Km (A.tup [jc (kv p) 0,jc (kv p) 1]) 1=some (tm p.2):=rfl;simp only [jf,k0,k1,k2,h1,h2,h3]
theorem jnf (m:jk) (hn:(m.map Prod.fst).Nodup):jmL (.mp (m.map kv))=some (.top,[.sl 128 ((z6 m).map kv)]):=by
 have h:=jk7 m.length m [] rfl hn;rw [List.nil_append] at h;have e:jid []=(z6 []).map kv:=by rw [jm8];simp [jid]
 rw [jtR];show (some (m.map kv)).bind _=_;rw [Option.bind_some,e];exact h
theorem jnQ (p q:List UInt8 × T):G 77 [.agg (bc p),.agg (bc q)]=some (vi (j4 p.1 q.1),[]):=by
 have e:=KQ p.1 q.1;rw [g77];simp only [jf,e]
noncomputable def jbH (l:jk):Option Out:=jus (if kC (jR l) then some (jR l) else none)
structure GoodB (l:jk):Prop where
 nod:(l.map Prod.fst).Nodup
 keep:∀p∈l,p.2.name≠p.1
 len:l.length<=1000
 sz:∀p∈l,p.1.length<=1000000/\Tz p.2
theorem GoodB.perm {l l':jk} (h:GoodB l) (hp:l.Perm l'):GoodB l':=⟨(hp.map Prod.fst).nodup_iff.1 h.nod,λp hm=>h.keep p (hp.mem_iff.2 hm),by rw [<-hp.length_eq];exact h.len,λp hm=>h.sz p (hp.mem_iff.2 hm)⟩
theorem jcl {l l':jk} (h:GoodB l) (hp:l.Perm l'):jR l=jR l':=by
 have h':=h.perm hp;have f:=(yt l [] h.keep).2;have f':=(yt l' [] h'.keep).2;refine jfc (R:=LtB) (λa h=>by unfold LtB at h;rw [Jz] at h;cases h) (λa b h h'=>by have:=qR h h';rw [Jz] at this;cases this) (zM l [] List.Pairwise.nil h.nod λp _ q h=>by cases h) (zM l' [] List.Pairwise.nil h'.nod λp _ q h=>by cases h) λx=> ?_;have e1:=f x;have e2:=f' x;simp only [List.not_mem_nil,false_or] at e1 e2;exact e1.trans ((hp.mem_iff).trans e2.symm)
theorem jdq {l l':jk} (h:GoodB l) (hp:l.Perm l'):jbH l=jbH l':=by unfold jbH;rw [jcl h hp]
theorem QO {l:jk} (h:GoodB l):SzB (jR l):=by
 obtain ⟨f1,f2⟩:=yt l [] h.keep;have:=h.len;refine ⟨by unfold jR;rw [f1];simp;omega,λq hq=> ?_⟩;have:=(f2 q).1 hq;simp only [List.not_mem_nil,false_or] at this;exact h.sz q this
theorem jmf (l:jk) (h:GoodB l):((jjl (l.map bc)).bind λt1=>(hR 3 t1 0).bind λt2=>((G 28 [A.agg [A.sl 3 t2]]).bind (fin true)).bind λt3=>(K6 .not t3).bind λt4=>(zi t4).bind λt5=>brn t5 (some ((A.tup [A.agg [A.sl 3 []],vb false],[]))) (some ((A.tup [A.agg [A.sl 3 t2],vb true],[]))))=jbH l:=by
 obtain ⟨so,p1,p2,p3⟩:=jgf qd Prod.fst bc 3 77 rfl l (by have:=h.len;omega) λx _ y _=>jnQ x y
 have hso:=jfl h.nod h.keep p1 p2;subst hso;have e1:=jef (jR l) (QO h);have hC:jjl (l.map bc)=some (.top,[.sl 3 ((jR l).map bc)]):=by rw [jtU];exact p3
 have r1:hR 3 (A.top,[.sl 3 ((jR l).map bc)]) 0=some ((jR l).map bc):=rfl;unfold jbH;cases hv:kC (jR l)<;>rw [hv] at e1
 ·rw [if_neg Bool.false_ne_true];have e1:(G 28 [sb (jR l)]).bind (fin true)=some (vb false):=by rw [e1];rfl
  simp only [jf,hC,r1,e1];rfl
 ·rw [if_pos rfl];have e1:(G 28 [sb (jR l)]).bind (fin true)=some (vb true):=by rw [e1];rfl
  simp only [jf,hC,r1,e1];rfl
theorem jbV {a b:jk} (h:a.Perm b):(jW a).Perm (jW b):=h.filter _
theorem ji7:∀(n:Nat) (m acc:jk),m.length=n->GoodB (acc++jW m)->(∀p∈m,Tz p.2)->jdf [] (acc.map bc) (m.map kv)=jbH (acc++jW m):=by
 intro n;induction n with
 | zero=>
  intro m acc hl hg _;obtain rfl:=List.length_eq_zero_iff.1 hl;have hk:jW [] = []:=rfl;rw [hk,List.append_nil] at hg ⊢;rw [jrw];exact jmf acc hg
 | succ n ih=>
  intro m acc hl hg hz;have hfin:∃o,jbH (acc++jW m)=some o:=by
   unfold jbH jus;split<;>exact ⟨_,rfl⟩
  obtain ⟨o,ho⟩:=hfin;rw [ho,jrw];refine jfR (λe=>by rw [List.map_eq_nil_iff.1 e] at hl;cases hl) λi x hx=> ?_;obtain ⟨hi,rfl⟩:=jb9 hx;rw [jdD,<-ho];have hp:=jbE hi;have hl2:(m.eraseIdx i).length=n:=by rw [List.length_eraseIdx,if_pos hi];omega
  generalize m.eraseIdx i=m2 at hp hl2;generalize m[i]=p at hp;have hkp:(jW m).Perm (jW (p::m2)):=jbV hp.symm;have hz2:∀q∈m2,Tz q.2:=λq hq=>hz q (hp.mem_iff.1 (by simp [hq]));have hzp:Tz p.2:=hz p (hp.mem_iff.1 (by simp));have k0:jiv (kv p)=true:=rfl;have k1:Km (A.tup [jc (kv p) 0,jc (kv p) 1]) 0=some (sv p.1):=rfl;have k2:Km (A.tup [jc (kv p) 0,jc (kv p) 1]) 1=some (tm p.2):=rfl;by_cases he:p.2.name=p.1
  ·have hk2:jW (p::m2)=jW m2:=by
    unfold jW;rw [List.filter_cons,if_neg (by simp [he])]
   rw [hk2] at hkp;have hpm:=hkp.append_left acc;have h3:=ih m2 acc hl2 (hg.perm hpm) hz2;rw [jdq hg hpm];simp only [jf,k0,k1,k2,he,h3]
  ·have hk2:jW (p::m2)=p::jW m2:=by
    unfold jW;rw [List.filter_cons,if_pos (by simp [he])]
   rw [hk2] at hkp;have hpm:(acc++jW m).Perm (acc++[p]++jW m2):=by
    rw [List.append_assoc];exact hkp.append_left acc
   have hg2:=hg.perm hpm;have h3:=ih m2 (acc++[p]) hl2 hg2 hz2;have hlen:=hg2.len;rw [List.length_append,List.length_append,List.length_singleton] at hlen;rw [jdq hg hpm];have e3:=KR p.2 hzp;have e3:G 75 [.agg [sv p.2.name,j6 p.2.args]]=some (tm p.2,[]):=e3;have hf:jJ (acc.length+1) 56=true:=jux (by omega);have ha:km (acc.map bc) [[sv p.1,sv p.2.name,j6 p.2.args]]=(acc++[p]).map bc:=by rw [List.map_append];rfl
   have h3:jdf [] (km (acc.map bc) [[sv p.1,sv p.2.name,j6 p.2.args]]) (m2.map kv)=jbH (acc++[p]++jW m2):=by rw [ha];exact h3
   simp only [jf,k0,k1,k2,he,e3];generalize hB:kJ _ _ _=B;have hB':B=some (.agg [sv p.1,sv p.2.name,j6 p.2.args]):=by rw [<-hB];kernel_rfl
   rw [hB'];simp only [jf,hf,h3]
theorem joQ (m:jk) (hg:GoodB (jW m)) (hz:∀p∈m,Tz p.2):G 45 [.mp (m.map kv)]=jbH (jW m):=by
 have h:=ji7 m.length m [] rfl (by rw [List.nil_append];exact hg) hz
 rw [List.nil_append] at h;rw [g45];exact h
end Go.Proofs.YtdbgbieenhcldaaGreat
