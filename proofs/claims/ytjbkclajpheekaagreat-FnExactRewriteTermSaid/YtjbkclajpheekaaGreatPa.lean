/- Pa -/
import Derived.Test.YtjbkclajpheekaaGreatKt
import Derived.Test.YtjbkclajpheekaaGreatPq
import Derived.Test.YtjbkclajpheekaaGreatEd
import Derived.ChangeSame
namespace Go.Proofs.YtjbkclajpheekaaGreat
open Go Go.RowKit Go.Proofs.YtjbkclajpheekaaGreat.Abs
set_option linter.unusedSimpArgs false
set_option linter.unusedVariables false
abbrev ci (n:Int):List A:=[vi n]
abbrev cs (s:List UInt8):List A:=[sv s]
abbrev ints (l:List Int):A:= .sl 1 (l.map ci)
abbrev strs (l:List (List UInt8)):A:= .sl 1 (l.map cs)
section
theorem jlj {α:Type} (x y:α):brn true x y=x:=rfl
theorem jjV {α:Type} (x y:α):brn false x y=y:=rfl
theorem jno {α:Type} (b:Bool) (x y:α):brn b x y=if b=true then x else y:=rfl
theorem jjr:(-1:Int) < 0:=by decide
theorem jmj (b:Bool):yc (vb b)=some b:=rfl
theorem jmp (b:Bool) (x y:A):Zb (vb b) x y=some (if b=true then x else y):=rfl
theorem jq7 (b w:Bool) (x:Option A):pG (vb b) w x=if b=w then x else some (.val undef):=rfl
theorem jmt (b w:Bool):qY (vb b) w=some (decide (b=w)):=rfl
theorem jml (w:Bool) (x:Option A):pG (.val undef) w x=some (.val undef):=rfl
theorem jgE (w:Bool):qY (.val undef) w=some false:=rfl
theorem jmm (k:Nat) (xs:List (List A)):qe (.sl k xs)=some (vi xs.length):=rfl
theorem jn2 (xs:List (List A)):jcp xs=vi xs.length:=rfl
theorem jmx (xs:List (List A)):kZ xs=xs.length:=rfl
theorem Zv (l:List UInt8):Qr (sv l)=some (vi l.length):=rfl
theorem jlD (a:A):fin false (a,[])=some a:=rfl
theorem jpH (b c:Bool):fin c (vb b,[])=some (vb b):=by cases c<;>rfl
theorem jpI (c:Bool) (n:Int):fin c (vi n,[])=some (vi n):=by cases c<;>rfl
theorem jn0 (b:Bool):pUn .not (vb b)=some (vb (!b)):=rfl
theorem jmf (b:Bool) (x y:Int):jD .lss b (vi x) (vi y)=some (vb (decide (x < y))):=rfl
theorem jme (b:Bool) (x y:Int):jD .leq b (vi x) (vi y)=some (vb (decide (x<=y))):=rfl
theorem jmd (b:Bool) (x y:Int):jD .gtr b (vi x) (vi y)=some (vb (decide (y < x))):=rfl
theorem jmc (b:Bool) (x y:Int):jD .geq b (vi x) (vi y)=some (vb (decide (y<=x))):=rfl
theorem jmb (b:Bool) (x y:Int):jD .eql b (vi x) (vi y)=some (vb (decide (x=y))):=rfl
theorem jmh (b:Bool) (x y:Int):jD .neq b (vi x) (vi y)=some (vb (!decide (x=y))):=rfl
theorem jkm (b:Bool) (x y:Int):jD .lss b (vy x) (vy y)=some (vb (decide (x < y))):=rfl
theorem jkl (b:Bool) (x y:Int):jD .leq b (vy x) (vy y)=some (vb (decide (x<=y))):=rfl
theorem jkk (b:Bool) (x y:Int):jD .gtr b (vy x) (vy y)=some (vb (decide (y < x))):=rfl
theorem jkj (b:Bool) (x y:Int):jD .geq b (vy x) (vy y)=some (vb (decide (y<=x))):=rfl
theorem jki (b:Bool) (x y:Int):jD .eql b (vy x) (vy y)=some (vb (decide (x=y))):=rfl
theorem jkn (b:Bool) (x y:Int):jD .neq b (vy x) (vy y)=some (vb (!decide (x=y))):=rfl
theorem jko (x y:Bool):jD .eql true (vb x) (vb y)=some (vb (decide (x=y))):=rfl
theorem jkp (x y:Bool):jD .neq true (vb x) (vb y)=some (vb (!decide (x=y))):=rfl
theorem Zu (b:Bool) (x y:Int):jD .add b (vi x) (vi y)=ck (x+y):=by cases b<;>rfl
theorem jmi (b:Bool) (x y:Int):jD .sub b (vi x) (vi y)=ck (x - y):=by cases b<;>rfl
theorem jmg (b:Bool) (x y:Int):jD .mul b (vi x) (vi y)=ck (x * y):=by cases b<;>rfl
theorem qK {n:Int} (h1: -9223372036854775808<=n) (h2:n<=9223372036854775807):ck n=some (vi n):=jq ⟨h1,h2⟩
theorem jdI (b:Bool) (x y:List UInt8):jD .add b (sv x) (sv y)=if x.length+y.length<=9223372036854775807 then some (sv (x++y)) else none:=by cases b<;>rfl
theorem jkq (b:Bool) (x y:List UInt8):jD .eql b (sv x) (sv y)=some (vb (decide (x=y))):=rfl
theorem jks (b:Bool) (x y:List UInt8):jD .neq b (sv x) (sv y)=some (vb (!decide (x=y))):=rfl
theorem jkr (b:Bool) (x y:List UInt8):jD .lss b (sv x) (sv y)=some (vb (sLt x y)):=rfl
theorem jmo (a:A) (l:List A):yW (.elt (a::l) 0)=some a:=rfl
theorem jcg (cs:List A) (off n:Nat):jeX (.elt cs off) n=some (.elt cs (off+n)):=rfl
theorem jh0 (off:Nat) (cs:List A):jch off (.agg cs)=cs[off]? :=rfl
theorem jhZ (n:Nat) (ds:List A):YD n (.agg ds)=if ds.length=n/\ds.all zL=true then some ds else none:=rfl
theorem jjW (a:A) (l:List A):jc (a::l) 0=a:=rfl
theorem jlm (a b:A) (l:List A):jc (a::b::l) 1=b:=rfl
theorem jln (a b c:A) (l:List A):jc (a::b::c::l) 2=c:=rfl
theorem jhn (a b c d:A) (l:List A):jc (a::b::c::d::l) 3=d:=rfl
theorem jpP (k:Nat) (xs:List (List A)):zL (.sl k xs)=true:=rfl
theorem jnT (cs:List A) (o:Nat):zL (.elt cs o)=true:=rfl
theorem jpO (f:FuncId) (l:List A):zL (.fn f l)=true:=rfl
theorem jpS (n:Int):zL (vi n)=true:=rfl
theorem jpR (b:Bool):zL (vb b)=true:=rfl
theorem jpQ (l:List UInt8):zL (sv l)=true:=rfl
theorem jpV (n:Nat) (i:Int):pIx n (vi i)=if 0<=i/\i < (n:Int) then some i.toNat else none:=rfl
theorem YE {n i:Nat} (h:i < n):pIx n (vi i)=some i:=by
 rw [jpV,jq ⟨by omega,by omega⟩];simp
theorem jms (k:Nat) (xs:List (List A)):qX k (.sl k xs)=some xs:=jq rfl
theorem jpY (a:A) (l:List A):jci (.tup (a::l)) 0=some a:=rfl
theorem jpZ (a b:A) (l:List A):jci (.tup (a::b::l)) 1=some b:=rfl
theorem jp0 (a b c:A) (l:List A):jci (.tup (a::b::c::l)) 2=some c:=rfl
theorem jnY (x y:Int):jh3 (vi x) (vi y)=some (vi (if x < y then y else x)):=by
 unfold jh3;simp
theorem jnZ (x y:Int):jku (vi x) (vi y)=some (vi (if y < x then y else x)):=by
 unfold jku;simp
theorem jqU (a:A) (l:List A) (i:Nat):hD (a,l) i=l[i]? :=rfl
theorem jse (k:Nat) (a:A) (xs:List (List A)) (l:List A):hR k (a,.sl k xs::l) 0=some xs:=by simp [hR]
theorem jsf (k:Nat) (a b:A) (xs:List (List A)) (l:List A):hR k (a,b:: .sl k xs::l) 1=some xs:=by simp [hR]
theorem jsg (k:Nat) (a b c:A) (xs:List (List A)) (l:List A):hR k (a,b::c:: .sl k xs::l) 2=some xs:=by simp [hR]
theorem Ko {f:FuncId} {caps args:List A} {c:Bool} (h:K.pureF f=true):DX.run K (MM K) (.callc (.fn f caps) args c)=(G f (args++caps)).bind (fin c):=by
 simp only [DX.run,h,yf]
theorem jb {α:Type} {k:Nat} {f:α->List A} {xs:List α} {i:Nat} (h:i < xs.length):jw k (.sl k (xs.map f)) (vi i)=some (.elt (f xs[i]) 0):=by
 simp only [jw,yf,jdj,YE h,zQ];simp [jU,h]
theorem jB {i n:Nat} (h:i < n) (hn:n<=9223372036854775807):jD .add false (vi i) (vi 1)=some (vi ((i+1:Nat):Int)):=by
 rw [Zu,qK (by omega) (by omega)];rfl
theorem jbG {b:Int} {n:Nat} (h0:0<=b) (h1:b<=9223372036854775807) (hn:n<=9223372036854775807):ck (b - n)=some (vi (b - n)):=qK (by omega) (by omega)
theorem jxK (d top:Nat) (z:Int):pB d top (some (vi z))=if 0<=z/\z<=(top:Int) then some z.toNat else none:=rfl
theorem jv1 {d top n:Nat} (h:n<=top):pB d top (some (vi n))=some n:=by
 rw [jxK,jq ⟨by omega,by omega⟩];simp
theorem jtr {d top:Nat} (h:d<=top):pB d top none=some d:=jq h
theorem ju7 (xs:List (List A)):jkz xs=xs.length:=rfl
theorem jwF (xs:List (List A)) (off:Nat):jq9 xs off=xs.length - off:=rfl
theorem ju8 (ys:List (List A)) (n:Nat):jso ys n=vi (min ys.length n:Nat):=rfl
theorem juv (ys:List (List A)) (n:Nat):jra ys n=ys.take n:=rfl
theorem jwG (xs:List (List A)) (off n:Nat):jsp xs off n=(xs.drop off).take n:=rfl
theorem juu (xs:List (List A)) (off:Nat) (ys:List (List A)):Zc xs off ys=xs.take off++ys++xs.drop (off+ys.length):=rfl
theorem jt3 (a b:Nat):jsk a b=a - b:=rfl
theorem upto {P:Nat->Prop} {n:Nat} (h0:P n) (hs:∀i,i < n->P (i+1)->P i):∀i,i<=n->P i:=by
 intro i hi;obtain ⟨k,hk⟩:∃k,n=i+k:=⟨n - i,by omega⟩;induction k generalizing i with
 | zero=>rw [show i=n by omega];exact h0
 | succ k ih=>exact hs i (by omega) (ih (i+1) (by omega) (by omega))
theorem jA {α:Type} {xs:List α} {i:Nat} (h:i < xs.length):xs.drop i=xs[i]::xs.drop (i+1):=jm1 h
theorem evs :
  ((-1:Int) < 0)/\
  (∀ {α:Type} (x y:α),brn true x y=x)/\
  (∀ {α:Type} (x y:α),brn false x y=y)/\
  (∀ {α:Type} (b:Bool) (x y:α),brn b x y=if b=true then x else y)/\
  (∀ {α β:Type} (a:α) (f:α->Option β),(some a).bind f=f a)/\
  (∀ {α β:Type} (f:α->Option β),none.bind f=none)/\
  (∀(b:Bool),yc (vb b)=some b)/\
  (∀(b:Bool) (x y:A),Zb (vb b) x y=some (if b=true then x else y))/\
  (∀(b w:Bool) (x:Option A),pG (vb b) w x=if b=w then x else some (A.val undef))/\
  (∀(b w:Bool),qY (vb b) w=some (decide (b=w)))/\
  (∀(w:Bool) (x:Option A),pG (A.val undef) w x=some (A.val undef))/\
  (∀(w:Bool),qY (A.val undef) w=some false)/\
  (∀(k:Nat) (xs:List (List A)),qe (A.sl k xs)=some (vi ↑xs.length))/\
  (∀(xs:List (List A)),jcp xs=vi ↑xs.length)/\
  (∀(xs:List (List A)),kZ xs=xs.length)/\
  (∀(l:List UInt8),Qr (sv l)=some (vi ↑l.length))/\
  (∀(a:A),fin false (a,[])=some a)/\
  (∀(b c:Bool),fin c (vb b,[])=some (vb b))/\
  (∀(c:Bool) (n:Int),fin c (vi n,[])=some (vi n))/\
  (∀(b:Bool),pUn UnOp.not (vb b)=some (vb !b))/\
  (∀(b:Bool) (x y:Int),jD BinOp.lss b (vi x) (vi y)=some (vb (decide (x < y))))/\
  (∀(b:Bool) (x y:Int),jD BinOp.leq b (vi x) (vi y)=some (vb (decide (x<=y))))/\
  (∀(b:Bool) (x y:Int),jD BinOp.gtr b (vi x) (vi y)=some (vb (decide (y < x))))/\
  (∀(b:Bool) (x y:Int),jD BinOp.geq b (vi x) (vi y)=some (vb (decide (y<=x))))/\
  (∀(b:Bool) (x y:Int),jD BinOp.eql b (vi x) (vi y)=some (vb (decide (x=y))))/\
  (∀(b:Bool) (x y:Int),jD BinOp.neq b (vi x) (vi y)=some (vb !decide (x=y)))/\
  (∀(b:Bool) (x y:Int),jD BinOp.lss b (vy x) (vy y)=some (vb (decide (x < y))))/\
  (∀(b:Bool) (x y:Int),jD BinOp.leq b (vy x) (vy y)=some (vb (decide (x<=y))))/\
  (∀(b:Bool) (x y:Int),jD BinOp.gtr b (vy x) (vy y)=some (vb (decide (y < x))))/\
  (∀(b:Bool) (x y:Int),jD BinOp.geq b (vy x) (vy y)=some (vb (decide (y<=x))))/\
  (∀(b:Bool) (x y:Int),jD BinOp.eql b (vy x) (vy y)=some (vb (decide (x=y))))/\
  (∀(b:Bool) (x y:Int),jD BinOp.neq b (vy x) (vy y)=some (vb !decide (x=y)))/\
  (∀(x y:Bool),jD BinOp.eql true (vb x) (vb y)=some (vb (decide (x=y))))/\
  (∀(x y:Bool),jD BinOp.neq true (vb x) (vb y)=some (vb !decide (x=y)))/\
  (∀(b:Bool) (x y:Int),jD BinOp.add b (vi x) (vi y)=ck (x+y))/\
  (∀(b:Bool) (x y:Int),jD BinOp.sub b (vi x) (vi y)=ck (x - y))/\
  (∀(b:Bool) (x y:Int),jD BinOp.mul b (vi x) (vi y)=ck (x * y))/\
  (∀(b:Bool) (x y:List UInt8),jD BinOp.eql b (sv x) (sv y)=some (vb (decide (x=y))))/\
  (∀(b:Bool) (x y:List UInt8),jD BinOp.neq b (sv x) (sv y)=some (vb !decide (x=y)))/\
  (∀(b:Bool) (x y:List UInt8),jD BinOp.lss b (sv x) (sv y)=some (vb (sLt x y)))/\
  (∀(a:A) (l:List A),yW (A.elt (a::l) 0)=some a)/\
  (∀(cs:List A) (off n:Nat),jeX (A.elt cs off) n=some (A.elt cs (off+n)))/\
  (∀(off:Nat) (cs:List A),jch off (A.agg cs)=cs[off]?)/\
  (∀(n:Nat) (ds:List A),YD n (A.agg ds)=if ds.length=n/\ds.all zL=true then some ds else none)/\
  (∀(a:A) (l:List A),jc (a::l) 0=a)/\
  (∀(a b:A) (l:List A),jc (a::b::l) 1=b)/\
  (∀(a b c:A) (l:List A),jc (a::b::c::l) 2=c)/\
  (∀(a b c d:A) (l:List A),jc (a::b::c::d::l) 3=d)/\
  (∀(k:Nat) (xs:List (List A)),zL (A.sl k xs)=true)/\
  (∀(cs:List A) (o:Nat),zL (A.elt cs o)=true)/\
  (∀(f:FuncId) (l:List A),zL (A.fn f l)=true)/\
  (∀(n:Int),zL (vi n)=true)/\
  (∀(b:Bool),zL (vb b)=true)/\
  (∀(l:List UInt8),zL (sv l)=true)/\
  (∀(k:Nat) (xs:List (List A)),qX k (A.sl k xs)=some xs)/\
  (∀(a:A) (l:List A),jci (A.tup (a::l)) 0=some a)/\
  (∀(a b:A) (l:List A),jci (A.tup (a::b::l)) 1=some b)/\
  (∀(a b c:A) (l:List A),jci (A.tup (a::b::c::l)) 2=some c)/\
  (∀(x y:Int),jh3 (vi x) (vi y)=some (vi (if x < y then y else x)))/\
  (∀(x y:Int),jku (vi x) (vi y)=some (vi (if y < x then y else x)))/\
  (∀(a:A) (l:List A) (i:Nat),hD (a,l) i=l[i]?)/\
  (∀(k:Nat) (a:A) (xs:List (List A)) (l:List A),hR k (a,A.sl k xs::l) 0=some xs)/\
  (∀(k:Nat) (a b:A) (xs:List (List A)) (l:List A),hR k (a,b::A.sl k xs::l) 1=some xs)/\
  (∀(k:Nat) (a b c:A) (xs:List (List A)) (l:List A),hR k (a,b::c::A.sl k xs::l) 2=some xs)/\
  (∀ {α:Type} {a:α} {l:List α} {f:α->Bool},(a::l).all f=(f a && l.all f))/\
  (∀ {α:Type} {f:α->Bool},([]:List α).all f=true)/\
  (∀ {α:Type} {a:α} {l:List α},(a::l).length=l.length+1)/\
  (∀ {α:Type},([]:List α).length=0)/\
  (∀ {α β:Type} {l:List α} (f:α->β),(List.map f l).length=l.length)/\
  (∀(n:Nat),0+n=n)/\
  (∀(b:Bool),(b && b)=b)/\
  (∀(b:Bool),(b && true)=b)/\
  (∀(p:Prop),(p/\p)=p)/\
  (∀ {α:Type} {_x:Decidable True} (t e:α),(if True then t else e)=t)/\
  (∀ {α:Type} {_x:Decidable False} (t e:α),(if False then t else e)=e)/\
  ((true=false)=False)/\
  ((false=true)=False)/\
  (∀(_h:Decidable True),decide True=true)/\
  (∀(_h:Decidable False),decide False=false)/\
  ((!true)=false)/\
  ((!false)=true)/\
  (∀(b:Bool),((!b)=true)=(b=false))/\
  (∀ {p:Prop} [Decidable p],(decide p=true)=p)/\
  (∀ {p:Prop} {x:Decidable p},decide p=false↔ ¬p)/\
  (∀(a:Int),¬a < a)/\
  ((¬True)=False)/\
  ((¬False)=True)/\
  (∀ {α:Type} (a b:α),(if True then a else b)=a)/\
  (∀ {α:Type} (a b:α),(if False then a else b)=b):=
 ⟨@jjr,@jlj,@jjV,@jno,@QD.{0,0},@Option.bind_none.{0,0},@jmj,@jmp,@jq7,@jmt,@jml,@jgE,@jmm,@jn2,@jmx,@Zv,@jlD,@jpH,@jpI,@jn0,@jmf,@jme,@jmd,@jmc,@jmb,@jmh,@jkm,@jkl,@jkk,@jkj,@jki,@jkn,@jko,@jkp,@Zu,@jmi,@jmg,@jkq,@jks,@jkr,@jmo,@jcg,@jh0,@jhZ,@jjW,@jlm,@jln,@jhn,@jpP,@jnT,@jpO,@jpS,@jpR,@jpQ,@jms,@jpY,@jpZ,@jp0,@jnY,@jnZ,@jqU,@jse,@jsf,@jsg,@zk.{0},@jcN.{0},@qf.{0},@jed.{0},@jdj.{0,0},@J3,@Kg,@YM,@and_self,@yf.{1},@KC.{1},@Bool.true_eq_false,@ZP,@decide_true,@decide_false,@jiq,@Bool.not_false,@KD,@JP,@jiu,@Int.lt_irrefl,@not_true_eq_false,@not_false_eq_true,@ite_true.{1},@ite_false.{1}⟩
end
theorem jqS:(∀ {α:Type} {h:Decidable True} (a b:α),@ite α True h a b=a)/\(∀ {α:Type} {h:Decidable False} (a b:α),@ite α False h a b=b)/\(1+1=2/\1+2=3/\1+3=4/\1+4=5/\2+1=3/\2+2=4/\2+3=5/\2+4=6/\3+1=4/\3+2=5/\3+3=6/\3+4=7/\4+1=5/\4+2=6/\4+3=7/\4+4=8/\5+1=6/\5+2=7/\5+3=8/\5+4=9/\6+1=7/\6+2=8/\6+3=9/\6+4=10/\7+1=8/\7+2=9/\7+3=10/\7+4=11/\8+1=9/\8+2=10/\8+3=11/\8+4=12/\9+1=10/\9+2=11/\9+3=12/\9+4=13/\10+1=11/\10+2=12/\10+3=13/\10+4=14/\11+1=12/\11+2=13/\11+3=14/\11+4=15/\12+1=13/\12+2=14/\12+3=15/\12+4=16):=by refine ⟨?_,?_,by decide⟩<;>intros<;>simp
theorem jr:type_of% (And.intro evs (And.intro cev jqS)):=And.intro evs (And.intro cev jqS)
open Go Go.RowKit Go.ChangeShapes Go.Deep Go.Proofs.YtjbkclajpheekaaGreat.Abs
section
variable {P:Program} {t:Nat} {H:Type} {enc:TypeId × Value->H} {w:World} {base:Nat} {spare:Nat->Bool} {held:Bool} {fuel:Nat} {cs:List Value} {x:DataW H × List MemPlace}
end
inductive T where
 | mk (name:List UInt8) (args:List T)
def T.name:T->List UInt8 | .mk n _=>n
def T.args:T->List T | .mk _ us=>us
theorem T.eta (t:T):T.mk t.name t.args=t:=by cases t;rfl
mutual
def jm:T->List A
 | .mk n us=>[sv n,.sl 2 (jbo us)]
def jbo:List T->List (List A)
 | []=>[]
 | t::ts=>jm t::jbo ts
end
theorem ZF:∀ts:List T,jbo ts=ts.map jm
 | []=>rfl
 | t::ts=>by simp [jbo,ZF ts]
theorem kA (t:T):jm t = [sv t.name,.sl 2 (t.args.map jm)]:=by
 cases t;simp [jm,T.name,T.args,ZF]
theorem jdh (t:T):(jm t).length=2:=by rw [kA];rfl
abbrev tm (t:T):A:= .agg [sv t.name,.sl 2 (t.args.map jm)]
abbrev zl (ts:List T):A:= .sl 2 (ts.map jm)
theorem jg (t:T):zz 2 (.elt (jm t) 0)=some (.agg [sv t.name,.sl 2 (t.args.map jm)]):=by rw [kA];rfl
mutual
def tsz:T->Nat
 | .mk n us=>n.length+us.length+ZI us
def ZI:List T->Nat
 | []=>0
 | t::ts=>tsz t+ZI ts
end
theorem zH (t:T):tsz t=t.name.length+t.args.length+ZI t.args:=by cases t;simp [tsz,T.name,T.args]
theorem zW:∀ {ts:List T} {t:T},t∈ts->tsz t<=ZI ts
 | [],_,h=>by cases h
 | u::us,t,h=>by
  simp only [ZI];rcases jH.1 h with rfl|h
  ·omega
  ·have:=zW h;omega
mutual
def qB:T->Prop
 | .mk n us=>n.length<=9223372036854775807/\us.length<=9223372036854775807/\jkU us
def jkU:List T->Prop
 | []=>True
 | t::ts=>qB t/\jkU ts
end
theorem j5 (t:T):qB t↔t.name.length<=9223372036854775807/\t.args.length<=9223372036854775807/\jkU t.args:=by cases t;simp [qB,T.name,T.args]
theorem jC:∀ts:List T,jkU ts↔ ∀t∈ts,qB t
 | []=>by simp [jkU]
 | t::ts=>by simp [jkU,jC ts]
theorem T.ind {p:T->Prop} (h:∀t,(∀u∈t.args,p u)->p t):∀t,p t:=by
 intro t;induction hn:SizeOf.sizeOf t using Nat.strongRecOn generalizing t with
 | ind n ih=>
  subst hn;refine h t λu hu=>ih (SizeOf.sizeOf u) ?_ u rfl;cases t with
  | mk nm us=>
   have:=List.sizeOf_lt_of_mem hu;simp only [T.args] at this;simp only [T.mk.sizeOf_spec];omega
section
variable {P:Program} {tT tS:Nat}
theorem jkC {H:Type} {enc:TypeId × Value->H} {w:World} {base:Nat} {spare:Nat->Bool} {held:Bool} {f0 f1:Field} (ht:P.underlying tT=some (.struct #[f0,f1])) (h0:P.underlying f0.type=some .string) (h1:P.underlying f1.type=some (.slice tT))
  (o0:f0.offset=0) (o1:f1.offset=1) (c0:P.cellsOf f0.type=1) (c1:P.cellsOf f1.type=1) (c2:P.cellsOf tT=2) :
  ∀(fuel:Nat) (cs:List Value) (x:DataW H × List MemPlace),DataW.trod enc P w base spare held fuel tT cs=some x-> ∃t,qB t/\jk w (λ_=>False) (jm t) cs/\ji cs:=by
 intro fuel;induction fuel using Nat.strongRecOn with
 | ind fuel ih=>
  intro cs x h;obtain ⟨xs,n,hfn,rfl,hl,hlen,hf⟩:=DataW.trod_struct ht h;have e0:=hf 0 f0 rfl;have e1:=hf 1 f1 rfl;rw [o0,c0] at e0;rw [o1,c1] at e1;rw [c2] at hl
  match cs,hl with
  | [u,v],_=>
   match xs,hlen with
   | [y0,y1],_=>
    simp only [kV,YP,jm4,Ze] at e0;simp only [jac,kV,YP,jm4,jjP,Ze] at e1;obtain ⟨s,hs,_,hsz⟩:=DataW.trod_string h0 e0;obtain ⟨ts,⟨hts,htl⟩,hr,ho⟩:=jgV (P:=P) (t:=f1.type) (e:=tT) (f:=jm) (p:=qB) jdh (by decide) h1 c2 (λm cs' x' hm hx'=>ih m (by omega) cs' x' hx') e1;have hbs:∀s:ByteArray,(⟨⟨bs s⟩⟩:ByteArray)=s:=λs=>rfl;refine ⟨.mk (bs s) ts,by simp only [qB];exact ⟨by show (bs s).length<=_;rw [<-K3];simpa [maxLen] using hsz,htl,(jC ts).2 hts⟩,?_,?_⟩
    ·simp only [jm,ZF];simp only [yE,and_true] at hs;subst hs;simp only [jk,yE] at hr;obtain ⟨v',r',⟨rfl,rfl⟩,h3,_⟩:=hr;simp only [jk];exact ⟨_,_,rfl,by simp [rel,hbs],_,_,rfl,h3,rfl⟩
    ·simp only [yE,and_true] at hs;subst hs;intro z hz;rcases jH.1 hz with rfl|hz
     ·simp [Value.oneCell']
     ·exact ho z hz
end
theorem jn6:Rdr Tryz.prog 28 jm qB:=λ_ _ _ _ _ _ fuel cs x h=>
 jkC Tryz.underlying28 Tryz.underlying9 Tryz.underlying26 rfl rfl (by kernel_rfl) (by kernel_rfl) (by kernel_rfl) fuel cs x h
structure Ord' where
 syms:List (List UInt8)
 ws:List Int
 var:Int
abbrev jce (o:Ord'):List A:=[strs o.syms,ints o.ws,vi o.var]
abbrev od (o:Ord'):A:= .agg [strs o.syms,ints o.ws,vi o.var]
def owf (o:Ord'):Prop:=((∀s∈o.syms,s.length<=9223372036854775807)/\o.syms.length<=9223372036854775807)/\((∀x∈o.ws,I64 x)/\o.ws.length<=9223372036854775807)/\I64 o.var
set_option maxHeartbeats 1000000
def kG (left n:Int):Int:=if 0<=left - n then left - n else -1
theorem yp {left n:Int} (h:left < n):kG left n = -1:=jp (by omega)
theorem ZW {left n:Int} (h:n<=left):kG left n=left - n:=jq (by omega)
theorem jb5 {b:Int} (h:0<=b):kG b ((0:Nat):Int)=b:=by unfold kG;simp [h]
theorem Ku (b m n:Int):kG (b - m) n=kG b (m+n):=by unfold kG;rw [Int.sub_sub]
theorem jgk (b n:Int): -1<=kG b n:=by unfold kG;split<;>omega
theorem jdC {b m n:Int} (h:m<=b):kG (kG b m) n=kG b (m+n):=by rw [ZW h,Ku]
def part {α:Type} (f:α->List A) (z:List A) (xs:List α) (i:Nat):List (List A):=(xs.take i).map f++List.replicate (xs.length - i) z
section
variable {α:Type} {f:α->List A} {z:List A} {xs:List α}
theorem Z1:Q1 xs.length z=part f z xs 0:=by simp [part,Q1]
theorem Qs:part f z xs xs.length=xs.map f:=by simp [part]
theorem JZ {i:Nat} (h:i<=xs.length):(part f z xs i).length=xs.length:=by simp [part];omega
theorem Qt {i:Nat} (h:i < xs.length):Zy (part f z xs i) i=some z:=by
 unfold Zy part;rw [y8 (by simp;omega)];simp;rw [List.getElem?_replicate,jq (by omega)]
theorem Qu {i:Nat} (h:i < xs.length):zq (part f z xs i) i (f xs[i])=part f z xs (i+1):=by
 unfold zq part;have e:xs.length - i=(xs.length - (i+1))+1:=by omega
 rw [List.set_append_right _ _ (by simp;omega),e,JQ]
 simp only [jdj,jfv,jfr (jef h),jmZ,jha];rw [<-List.take_append_getElem h,jaP];simp
end
theorem jey (a b c d:A):kE [a,b] 0 [c,d] = [c,d]:=rfl
theorem ZZ {b n:Nat} (hb:(b:Int) * (n:Int)<=281474976710656) (hn:n<=1048576):jaF b (vi n) (vi n)=some n:=by
 show (if _ then _ else _)=_;rw [jq (show jpk b n n from ⟨by omega,Int.le_refl _,hb,by omega⟩),jit]
theorem JY {k:Nat} {xs:List (List A)} {i:Nat} (h:i<=xs.length):zU k (.sl k xs) none (some (vi i))=some (.sl k (xs.take i)):=by
 simp only [zU,qt,QD];rw [jq ⟨trivial,Int.le_refl _,by omega,by omega⟩];simp
theorem jaG {k:Nat} {xs:List (List A)} {i:Nat} (h:i<=xs.length):zU k (.sl k xs) (some (vi i)) none=some (.sl k (xs.drop i)):=by
 simp only [zU,qt,QD];rw [jq ⟨trivial,by omega,by omega,by omega⟩];simp
def jf4 (k:Int):Nat->List Int
 | 0=>[]
 | n+1=>k::jf4 (k+1) n
section
variable {α:Type} {f:α->List A} (M r:List α) (x:α)
theorem jl3 {k:Nat} :jw k (.sl k ((M++x::r).map f)) (vi (M.length:Nat))=some (.elt (f x) 0):=by
 rw [jb (by simp)];simp
theorem jl4:((M.length:Nat):Int) < (((M++x::r).length:Nat):Int):=by simp only [jaQ,qf];omega
end
section
variable (M R:List (List A)) (x y:List A)
theorem je5:Zy (M++x::R) M.length=some x:=by
 unfold Zy;rw [y8 (jV _)];simp
theorem je7:zq (M++x::R) M.length y=M++y::R:=by
 unfold zq;rw [List.set_append_right _ _ (by simp)];simp
theorem jia:pIx (M++x::R).length (vi (M.length:Nat))=some M.length:=YE (by simp)
end
def Ke:List (List UInt8)->Nat
 | []=>0
 | s::l=>s.length+Ke l
def osz (o:Ord'):Nat:=o.syms.length+Ke o.syms+o.ws.length
theorem jmL (ts:List T) (hl:ts.length<=9223372036854775807) (ih:∀t∈ts,∀left:Int,0<=left->left<=1048576->G 6 [tm t,vi left]=some (vi (kG left ((tsz t:Nat):Int)),[]))
  (left:Int) (h0:0<=left) (h1:left<=1048576):G 16 [zl ts,vi left]=some (vi (kG left ((ts.length+ZI ts:Nat):Int)),[]):=by
 have loop:∀(a:Int),0<=a->a<=1048576->jfx (zl ts) (vi a) (vi 0)=some (vi (kG a (ZI ts)),[]):=by
  have key:=(upto (P:=λi=>∀a:Int,0<=a->a<=1048576->jfx (zl ts) (vi a) (vi i)=some (vi (kG a (ZI (ts.drop i))),[])) (n:=ts.length) ?_ ?_ 0 (zZ _))
  ·simp only [kV,ya] at key;exact key
  ·intro b hb hb';rw [joE,zw];simp only [jr,ZI];rw [jb5 hb]
  ·intro i hi ih' b hb hb';have e1:=ih ts[i] (zf _) b hb hb';rw [joE,jA hi];simp only [jr,hi,Int.ofNat_lt,jb hi,jg,e1,jB hi hl,ZI];by_cases hc:b < (tsz ts[i]:Nat)
   ·rw [yp hc,yp (by omega)];rfl
   ·have hp:=ZW (Int.not_lt.1 hc);have ih':=ih' (kG b (tsz ts[i]:Nat)) (by omega) (by omega);have hn:¬kG b ((tsz ts[i]:Nat):Int) < 0:=by omega
    simp only [jr,hn,ih'];rw [jdC (Int.not_lt.1 hc),<-Int.natCast_add]
 have hk:=jbG h0 (Int.le_trans h1 (by decide)) hl;rw [g16];simp only [jr,hk];by_cases hc:left - ts.length < 0
 ·simp only [jr,hc];rw [yp (by omega)]
 ·have hl:=loop (left - ts.length) (by omega) (by omega);simp only [jr,hc,hl];rw [Ku,<-Int.natCast_add]
theorem jom (t:T):qB t-> ∀left:Int,0<=left->left<=1048576->G 6 [tm t,vi left]=some (vi (kG left ((tsz t:Nat):Int)),[]):=by
 refine T.ind (p:=λt=>qB t-> ∀left:Int,0<=left->left<=1048576->G 6 [tm t,vi left]=some (vi (kG left ((tsz t:Nat):Int)),[])) ?_ t;intro t ih hw left h0 h1;obtain ⟨w1,w2,w3⟩:=(j5 t).1 hw;have w3:=(jC _).1 w3;have hk:=jbG h0 (Int.le_trans h1 (by decide)) w1;rw [g6,zH];simp only [jr,hk];by_cases hc:left - t.name.length < 0
 ·simp only [jr,hc];rw [yp (by omega)]
 ·have e2:=jmL t.args w2 (λu hu=>ih u hu (w3 u hu)) (left - t.name.length) (by omega) (by omega);simp only [jr,hc,e2];rw [Ku,<-Int.natCast_add,<-K9];by_cases h2:kG left ((t.name.length+t.args.length+ZI t.args:Nat):Int) < 0
  ·have:kG left ((t.name.length+t.args.length+ZI t.args:Nat):Int) = -1:=by have:=jgk left (t.name.length+t.args.length+ZI t.args:Nat);omega
   simp only [jr,h2,this]
  ·simp only [jr,h2]
theorem jlA (ts:List T) (hl:ts.length<=9223372036854775807) (ih:∀t∈ts,G 11 [tm t,tm t]=some (vb true,[])):G 20 [zl ts,zl ts]=some (vb true,[]):=by
 have key:=(upto (P:=λi=>jiz (zl ts) (zl ts) (vi i)=some (vb true,[])) (n:=ts.length) ?_ ?_ 0 (zZ _))
 ·rw [g20];simp only [ya] at key;simp only [jr,key]
 ·rw [joF];simp only [jr]
 ·intro i hi ih';have h5:=jB hi hl;have e1:=ih ts[i] (zf _);rw [joF];simp only [jr,hi,Int.ofNat_lt,jb hi,jg,e1,h5,ih']
theorem ji5 (t:T):qB t->G 11 [tm t,tm t]=some (vb true,[]):=by
 refine T.ind (p:=λt=>qB t->G 11 [tm t,tm t]=some (vb true,[])) ?_ t;intro t ih h;obtain ⟨w1,w2,w3⟩:=(j5 t).1 h;have w3:=(jC _).1 w3;have e1:=jlA t.args w2 λu hu=>ih u hu (w3 u hu);rw [g11];simp only [jr,e1]
theorem JA {l:List UInt8} {i:Nat} (h:i < l.length):jaH (sv l) (vi i)=some (vy (l[i].toNat:Int)):=by
 show (if _ then _ else _)=_;rw [jq ⟨by omega,by simpa using h⟩];simp [jU,h]
theorem yr {c:UInt8} {l:List UInt8} :jaH (sv (c::l)) (vi 0)=some (vy (c.toNat:Int)):=JA (i:=0) (l:=c::l) (by simp)
def Kh (lo hi x:Int):Bool:=decide (lo<=x) && decide (x<=hi)
theorem qC (x a b:Int):G 58 [vi x,vi a,vi b]=some (vb (Kh a b x),[]):=by
 rw [g58];by_cases h:a<=x<;>simp only [jr,h,Kh,jQ,jK]
theorem KV (x a b:Int):G 48 [vi x,vi a,vi b]=some (vb (Kh a b x),[]):=by
 rw [g48];by_cases h:a<=x<;>simp only [jr,h,Kh,jQ,jK]
def upc (c:UInt8):Bool:=Kh 65 90 (c.toNat:Int)
def QY (c:UInt8):Bool:=Kh 97 122 (c.toNat:Int)
def jj1 (c:UInt8):Bool:=Kh 48 57 (c.toNat:Int)
def qA (c:UInt8):Bool:=QY c || jj1 c
theorem jbZ (c:UInt8):G 115 [vy (c.toNat:Int)]=some (vb (upc c),[]):=by
 rw [jsb];by_cases h:65<=(c.toNat:Int)<;>simp only [jr,h,upc,Kh,jQ,jK]
theorem Yt (c:UInt8):G 84 [vy (c.toNat:Int)]=some (vb (QY c),[]):=by
 rw [g84];by_cases h:97<=(c.toNat:Int)<;>simp only [jr,h,QY,Kh,jQ,jK]
theorem jbY (c:UInt8):G 85 [vy (c.toNat:Int)]=some (vb (jj1 c),[]):=by
 rw [g85];by_cases h:48<=(c.toNat:Int)<;>simp only [jr,h,jj1,Kh,jQ,jK]
theorem jb3 (c:UInt8):G 79 [vy (c.toNat:Int)]=some (vb (qA c),[]):=by
 rw [g79];by_cases h:97<=(c.toNat:Int)<;>by_cases h2:(c.toNat:Int)<=122<;>by_cases h3:48<=(c.toNat:Int)<;>simp only [jr,h,h2,h3,qA,QY,jj1,Kh,jQ,jK,Bool.or_true,jab,zB,jZ]
def kS:List UInt8->Bool
 | []=>false
 | c::r=>upc c && (r.all qA && decide (r.length<=3))
theorem jbd (r:List UInt8) (k:Nat) (hk:k<=9):Kh 1 (k+1:Nat) (((r.length+1:Nat)):Int)=decide (r.length<=k):=by
 unfold Kh;have:decide ((1:Int)<=((r.length+1:Nat):Int))=true:=by simp;omega
 rw [this,jQ];by_cases h:r.length<=k<;>simp [h]<;>omega
theorem jaZ (s:List UInt8) (hs:s.length<=9223372036854775807):∀i,i<=s.length->1<=i->jbv (sv s) (vi (s.length:Nat)) (vi i)=some (vb ((s.drop i).all qA && Kh 1 4 (s.length:Nat)),[]):=by
 refine upto (P:=λi=>1<=i->jbv (sv s) (vi (s.length:Nat)) (vi i)=some (vb ((s.drop i).all qA && Kh 1 4 (s.length:Nat)),[])) ?_ ?_
 ·intro _;rw [jeL,zw];have e:=qC (s.length:Nat) 1 4;simp only [jr,e,jQ]
 ·intro i hi ih h1;have ih:=ih (by omega);have hn:¬((i:Int)=0):=by omega
  have hp:(0:Int) < (i:Int):=by omega
  have hlt:(i:Int) < ((s.length:Nat):Int):=by omega
  have h5:=jB hi hs;have hx:=JA hi;have e1:=Yt s[i];have e2:=jbY s[i];rw [jeL,jA hi];generalize s[i]=ch at *;rw [zk];cases h8:QY ch<;>cases h9:jj1 ch<;>rw [h8] at e1<;>rw [h9] at e2<;>simp only [jr,hn,hp,hlt,hx,e1,e2,h5,ih,qA,h8,h9,jQ,jK,Bool.or_true,jab,zB,jZ]
theorem jc9 (s:List UInt8) (hs:s.length<=9223372036854775807):G 113 [sv s]=some (vb (kS s),[]):=by
 rw [jr9];show (Qr (sv s)).bind _=_;rw [Zv,QD];cases s with
 | nil=>
  rw [jeL];have e:=qC ((0:Nat):Int) 1 4;simp only [jr,e];rfl
 | cons c r=>
  have key:=jaZ (c::r) hs 1 (by simp) (jV _);simp only [jac,kV] at key;have e':Kh 1 4 (((c::r).length:Nat):Int)=decide (r.length<=3):=jbd r 3 (by decide);rw [e'] at key;rw [jeL];have h5:jD .add false (vi 0) (vi 1)=some (vi ((1:Nat):Int)):=by rw [Zu,qK (by decide) (by decide)];rfl
  have h6:(0:Int) < (((c::r).length:Nat):Int):=Int.natCast_pos.2 (Nat.succ_pos _);have e1:=jbZ c;generalize ((((c::r).length:Nat)):Int)=n at *;cases hu:upc c<;>rw [hu] at e1<;>simp only [jr,h6,yr,e1,h5,key,kS,hu,jQ,jK]
theorem jhM (s:List UInt8) (hs:s.length<=9223372036854775807):∀i,i<=s.length->jdm (sv s) (vi i)=some (vb ((s.drop i).all qA),[]):=by
 refine upto (P:=λi=>jdm (sv s) (vi i)=some (vb ((s.drop i).all qA),[])) ?_ ?_
 ·rw [joT,zw];simp only [jr]
 ·intro i hi ih;have hlt:(i:Int) < ((s.length:Nat):Int):=by omega
  have h5:=jB hi hs;have hx:=JA hi;have e1:=jb3 s[i];rw [joT,jA hi];generalize s[i]=ch at *;rw [zk];cases h8:qA ch<;>rw [h8] at e1<;>simp only [jr,hlt,hx,e1,h5,ih,h8,jQ,jK]
theorem Kt (s:List UInt8) (hs:s.length<=9223372036854775807):G 55 [sv s]=some (vb (kS s),[]):=by
 rw [g55];show (Qr (sv s)).bind _=_;rw [Zv,QD];cases s with
 | nil=>
  have e:=KV ((0:Nat):Int) 1 4;simp only [jr,e];rfl
 | cons c r=>
  have e:=KV (((c::r).length:Nat):Int) 1 4;have e':Kh 1 4 (((c::r).length:Nat):Int)=decide (r.length<=3):=jbd r 3 (by decide);rw [e'] at e;have key:=jhM (c::r) hs 1 (by simp);simp only [jac,kV] at key;have key:jdm (sv (c::r)) (vi 1)=some (vb (r.all qA),[]):=key;generalize ((((c::r).length:Nat)):Int)=n at *;by_cases h3:r.length<=3
  ·rw [ZO h3] at e;by_cases ha:(c.toNat:Int) < 65
   ·have:¬(65<=(c.toNat:Int)):=by omega
    simp only [jr,e,yr,ha,kS,upc,Kh,this,jK]
   ·have h65:65<=(c.toNat:Int):=by omega
    by_cases hb:90 < (c.toNat:Int)
    ·have:¬((c.toNat:Int)<=90):=by omega
     simp only [jr,e,yr,ha,hb,kS,upc,Kh,this,jK,kM]
    ·have:(c.toNat:Int)<=90:=by omega
     simp only [jr,e,yr,ha,hb,kS,upc,Kh,this,h65,key,h3,jQ,YM]
  ·rw [jee h3] at e;simp only [jr,e,kS,h3,kM]
def zF (s:List UInt8):List (List UInt8)->Option Nat
 | []=>none
 | x::l=>if s=x then some 0 else (zF s l).map (· + 1)
def kP (i:Nat):Option Nat->Int
 | none=> -1
 | some k=>((i+k:Nat):Int)
theorem JW (s:List UInt8):∀l,(zF s l).isSome=l.contains s
 | []=>rfl
 | x::l=>by
  simp only [zF,jir];by_cases h:s=x
  ·simp [h]
  ·have:=JW s l;simp [h,this]
theorem jbb {s:List UInt8} :∀ {l:List (List UInt8)} {k:Nat},zF s l=some k->k < l.length/\l[k]? = some s
 | [],_,h=>by cases h
 | x::l,k,h=>by
  simp only [zF] at h;split at h
  ·rename_i e;cases h;exact ⟨by simp,by simp [e]⟩
  ·obtain ⟨j,h1,rfl⟩:=kC.1 h;have:=jbb h1;exact ⟨by simp;exact this.1,by simpa using this.2⟩
theorem jj4 (s:List UInt8) (l:List (List UInt8)):decide (kP 0 (zF s l) < 0)=!l.contains s:=by
 rw [<-JW];cases zF s l<;>simp [kP]
theorem jeD (s:List UInt8) (l:List (List UInt8)):decide (0<=kP 0 (zF s l))=l.contains s:=by
 rw [<-JW];cases zF s l<;>simp [kP]
theorem jbP {s x:List UInt8} {l:List (List UInt8)} {i:Nat} (h:¬s=x):kP (i+1) (zF s l)=kP i (zF s (x::l)):=by
 simp only [zF,h,KC];cases zF s l<;>simp [kP];omega
theorem KQ (l:List (List UInt8)) (s:List UInt8) (hl:l.length<=9223372036854775807):G 87 [strs l,sv s]=some (vi (kP 0 (zF s l)),[]):=by
 have key:=upto (P:=λi=>jiN (strs l) (sv s) (vi (l.length:Nat)) (vi i)=some (vi (kP i (zF s (l.drop i))),[])) (n:=l.length) ?_ ?_ 0 (zZ _)
 ·simp only [ya,kV] at key;rw [g87];simp only [jr,key]
 ·rw [jo0,zw];simp only [jr,zF,kP]
 ·intro i hi ih;have hlt:(i:Int) < ((l.length:Nat):Int):=by omega
  have h5:=jB hi hl;rw [jo0,jA hi];by_cases h:s=l[i]
  ·simp only [jr,hlt,jb hi,h,zF,kP,zJ]
  ·simp only [jr,hlt,jb hi,h,h5,ih,jbP h]
theorem qF (l:List (List UInt8)) (s:List UInt8) (hl:l.length<=9223372036854775807):G 60 [strs l,sv s]=some (vb (l.contains s),[]):=by
 have e:=KQ l s hl;rw [g60];simp only [jr,e,jeD]
theorem jbj (o:Ord') (s:List UInt8) (hl:o.syms.length<=9223372036854775807):G 80 [od o,sv s]=some (vi (kP 0 (zF s o.syms)),[]):=by
 have key:=upto (P:=λi=>jiL (sv s) (vi i) (strs o.syms) (ints o.ws) (vi o.var)=some (vi (kP i (zF s (o.syms.drop i))),[])) (n:=o.syms.length) ?_ ?_ 0 (zZ _)
 ·simp only [ya,kV] at key;rw [g80];simp only [jr,key]
 ·rw [joX,zw];simp only [jr,zF,kP]
 ·intro i hi ih;have hlt:(i:Int) < ((o.syms.length:Nat):Int):=by omega
  have h5:=jB hi hl;rw [joX,jA hi];by_cases h:s=o.syms[i]
  ·simp only [jr,hlt,jb hi,h,zF,kP,zJ]
  ·have h':¬o.syms[i]=s:=λe=>h e.symm;simp only [jr,hlt,jb hi,h',h5,ih,jbP h]
theorem jnL (l:List (List UInt8)) (s:List UInt8) (hl:l.length<=9223372036854775807):G 50 [strs l,sv s]=some (vb (l.contains s),[]):=by
 have key:=upto (P:=λi=>jiH (strs l) (sv s) (vi i)=some (vb ((l.drop i).contains s),[])) (n:=l.length) ?_ ?_ 0 (zZ _)
 ·simp only [ya,kV] at key;rw [g50];exact key
 ·rw [joP,zw];simp only [jr,List.contains_nil]
 ·intro i hi ih;have hlt:(i:Int) < ((l.length:Nat):Int):=by omega
  have h5:=jB hi hl;rw [joP,jA hi,jir];by_cases h:l[i]=s
  ·have:(s == l[i])=true:=by simp [h]
   simp only [jr,hlt,jb hi,h,this,zB];simp
  ·have:(s == l[i])=false:=by simp;exact λe=>h e.symm
   simp only [jr,hlt,jb hi,h,this,h5,ih,jZ]
def jgL:List (List UInt8):=[[116,114,117,101],[102,97,108,115,101],[116,114,117,116,104],[98,111,116,104],[101,105,116,104,101,114],[105,102],[97,108,108],[115,111,109,101]]
def jfe (c:UInt8):Bool:=qA c || decide ((c.toNat:Int)=95)
def Kz:List UInt8->Bool
 | []=>false
 | c::r=>QY c && (r.all jfe && (decide (r.length<=5) && !jgL.contains (c::r)))
theorem jnm (a b:List UInt8):(a == b)=decide (a=b):=by by_cases h:a=b<;>simp [h]
theorem jc8 (s:List UInt8) (hs:s.length<=9223372036854775807):∀i,i<=s.length->1<=i->jfB (sv s) (vi (s.length:Nat)) (vi i)=some (vb ((s.drop i).all jfe && (Kh 1 6 (s.length:Nat) && !jgL.contains s)),[]):=by
 refine upto (P:=λi=>1<=i->jfB (sv s) (vi (s.length:Nat)) (vi i)=some (vb ((s.drop i).all jfe && (Kh 1 6 (s.length:Nat) && !jgL.contains s)),[])) ?_ ?_
 ·intro _;rw [jjm,zw];have e:=qC (s.length:Nat) 1 6;have e2:=qF jgL s (by decide);have e3:G 86 []=some (strs jgL,[]):=g86;cases h:Kh 1 6 (s.length:Nat)<;>rw [h] at e<;>simp only [jr,e,e2,e3,h,jQ,jK,jcN]
 ·intro i hi ih h1;have ih:=ih (by omega);have hn:¬((i:Int)=0):=by omega
  have hlt:(i:Int) < ((s.length:Nat):Int):=by omega
  have h5:=jB hi hs;have hx:=JA hi;have e1:=Yt s[i];have e2:=jbY s[i];rw [jjm,jA hi];generalize s[i]=ch at *;rw [zk];cases h7:decide ((ch.toNat:Int)=95)<;>cases h8:QY ch<;>cases h9:jj1 ch<;>rw [h8] at e1<;>rw [h9] at e2<;>
   simp only [jr,hn,hlt,hx,e1,e2,h5,ih,jfe,qA,h7,h8,h9,jQ,jK,Bool.or_true,jab,zB,jZ]
theorem jau (s:List UInt8) (hs:s.length<=9223372036854775807):G 59 [sv s]=some (vb (Kz s),[]):=by
 rw [g59];show (Qr (sv s)).bind _=_;rw [Zv,QD];cases s with
 | nil=>
  rw [jjm];have e:G 58 [vi ((0:Nat):Int),vi 1,vi 6]=some (vb false,[]):=qC ((0:Nat):Int) 1 6;simp only [jr,e];rfl
 | cons c r=>
  have key:=jc8 (c::r) hs 1 (by simp) (jV _);simp only [jac,kV] at key;have e':Kh 1 6 (((c::r).length:Nat):Int)=decide (r.length<=5):=jbd r 5 (by decide);rw [e'] at key;rw [jjm];have h5:jD .add false (vi 0) (vi 1)=some (vi ((1:Nat):Int)):=by rw [Zu,qK (by decide) (by decide)];rfl
  have h6:(0:Int) < (((c::r).length:Nat):Int):=Int.natCast_pos.2 (Nat.succ_pos _);have e1:=Yt c;generalize ((((c::r).length:Nat)):Int)=n at *;cases hu:QY c<;>rw [hu] at e1<;>simp only [jr,h6,yr,e1,h5,key,Kz,hu,jQ,jK]
theorem jdb (s:List UInt8) (hs:s.length<=9223372036854775807):∀i,i<=s.length->Kj (sv s) (vi i)=some (vb ((s.drop i).all jfe),[]):=by
 refine upto (P:=λi=>Kj (sv s) (vi i)=some (vb ((s.drop i).all jfe),[])) ?_ ?_
 ·rw [joO,zw];simp only [jr]
 ·intro i hi ih;have hlt:(i:Int) < ((s.length:Nat):Int):=by omega
  have h5:=jB hi hs;have hx:=JA hi;have e1:=jb3 s[i];rw [joO,jA hi];generalize s[i]=ch at *;rw [zk];cases h7:decide ((ch.toNat:Int)=95)<;>cases h8:qA ch<;>rw [h8] at e1<;>simp only [jr,hlt,hx,e1,h5,ih,jfe,h7,h8,jQ,jK,Bool.or_true,jab,zB,jZ]
theorem jay (s:List UInt8) (hs:s.length<=9223372036854775807):G 49 [sv s]=some (vb (Kz s),[]):=by
 rw [g49];show (Qr (sv s)).bind _=_;rw [Zv,QD];cases s with
 | nil=>
  have e:G 48 [vi ((0:Nat):Int),vi 1,vi 6]=some (vb false,[]):=KV ((0:Nat):Int) 1 6;simp only [jr,e];rfl
 | cons c r=>
  have e:=KV (((c::r).length:Nat):Int) 1 6;have e':Kh 1 6 (((c::r).length:Nat):Int)=decide (r.length<=5):=jbd r 5 (by decide);rw [e'] at e;have key:=jdb (c::r) hs 1 (by simp);simp only [jac,kV] at key;have key:Kj (sv (c::r)) (vi 1)=some (vb (r.all jfe),[]):=key;generalize ((((c::r).length:Nat)):Int)=n at *;have hres:jgL.contains (c::r)=(decide (c::r = [116,114,117,101]) || (decide (c::r = [102,97,108,115,101]) || (decide (c::r = [116,114,117,116,104]) || (decide (c::r = [98,111,116,104]) || (decide (c::r = [101,105,116,104,101,114]) || (decide (c::r = [105,102]) || (decide (c::r = [97,108,108]) || decide (c::r = [115,111,109,101])))))))):=by
   simp only [jgL,jir,List.contains_nil,jab,jnm]
  by_cases h3:r.length<=5
  ·rw [ZO h3] at e;by_cases ha:(c.toNat:Int) < 97
   ·have:¬(97<=(c.toNat:Int)):=by omega
    simp only [jr,e,yr,ha,Kz,QY,Kh,this,jK]
   ·have h65:97<=(c.toNat:Int):=by omega
    by_cases hb:122 < (c.toNat:Int)
    ·have:¬((c.toNat:Int)<=122):=by omega
     simp only [jr,e,yr,ha,hb,Kz,QY,Kh,this,jK,kM]
    ·have h122:(c.toNat:Int)<=122:=by omega
     have e0:Kz (c::r)=(r.all jfe && !jgL.contains (c::r)):=by
      simp [Kz,QY,Kh,h65,h122,h3]
     rw [e0,hres];have hx0:=yr (c:=c) (l:=r);clear hres e0;generalize c::r=s at *;cases q0:decide (s = [116,114,117,101]);rotate_left
     ·simp only [jr,e,hx0,ha,hb,q0,zB,jZ,kM]
     cases q1:decide (s = [102,97,108,115,101]);rotate_left
     ·simp only [jr,e,hx0,ha,hb,q0,q1,zB,jZ,kM]
     cases q2:decide (s = [116,114,117,116,104]);rotate_left
     ·simp only [jr,e,hx0,ha,hb,q0,q1,q2,zB,jZ,kM]
     cases q3:decide (s = [98,111,116,104]);rotate_left
     ·simp only [jr,e,hx0,ha,hb,q0,q1,q2,q3,zB,jZ,kM]
     cases q4:decide (s = [101,105,116,104,101,114]);rotate_left
     ·simp only [jr,e,hx0,ha,hb,q0,q1,q2,q3,q4,zB,jZ,kM]
     cases q5:decide (s = [105,102]);rotate_left
     ·simp only [jr,e,hx0,ha,hb,q0,q1,q2,q3,q4,q5,zB,jZ,kM]
     cases q6:decide (s = [97,108,108]);rotate_left
     ·simp only [jr,e,hx0,ha,hb,q0,q1,q2,q3,q4,q5,q6,zB,jZ,kM]
     cases q7:decide (s = [115,111,109,101]);rotate_left
     ·simp only [jr,e,hx0,ha,hb,q0,q1,q2,q3,q4,q5,q6,q7,zB,jZ,kM]
     simp only [jr,e,hx0,ha,hb,q0,q1,q2,q3,q4,q5,q6,q7,zB,jZ,YM,jab,key]
  ·rw [jee h3] at e;simp only [jr,e,Kz,h3,jK,kM]
mutual
def nodes:T->Nat
 | .mk _ us=>1+jE us
def jE:List T->Nat
 | []=>0
 | t::ts=>nodes t+jE ts
end
theorem jS (t:T):nodes t=1+jE t.args:=by cases t;rfl
mutual
def dep:T->Nat
 | .mk _ us=>1+jaV us
def jaV:List T->Nat
 | []=>0
 | t::ts=>max (dep t) (jaV ts)
end
theorem jht (t:T):dep t=1+jaV t.args:=by cases t;rfl
mutual
def KW:T->Bool
 | .mk n us=>if kS n then us.isEmpty else Kz n && (decide (us.length<=4) && jgx us)
def jgx:List T->Bool
 | []=>true
 | t::ts=>KW t && jgx ts
end
theorem YB (t:T):KW t=if kS t.name then t.args.isEmpty else Kz t.name && (decide (t.args.length<=4) && jgx t.args):=by cases t;rfl
theorem jcf:∀ts,jgx ts=ts.all KW
 | []=>rfl
 | t::ts=>by rw [jgx,jcf ts,zk]
theorem yB:∀t:T,nodes t<=1+tsz t:=by
 refine T.ind λt ih=> ?_;have:∀ts:List T,(∀u∈ts,nodes u<=1+tsz u)->jE ts<=ts.length+ZI ts:=by
  intro ts;induction ts with
  | nil=>intro _;simp [jE]
  | cons u us ih=>
   intro h;have h1:=h u (by simp);have h2:=ih λv hv=>h v (by simp [hv]);simp only [jE,ZI,qf];omega
 have h:=this t.args ih;rw [jS,zH];omega
theorem qp (t:T):1<=nodes t:=by rw [jS];omega
theorem yj {ts:List T} {t:T} (h:t∈ts):nodes t<=jE ts:=by
 induction ts with
 | nil=>cases h
 | cons u us ih=>
  simp only [jE];rcases jH.1 h with rfl|h
  ·omega
  ·have:=ih h;omega
theorem jls:∀t:T,dep t<=nodes t:=by
 refine T.ind λt ih=> ?_;have:∀ts:List T,(∀u∈ts,dep u<=nodes u)->jaV ts<=jE ts:=by
  intro ts;induction ts with
  | nil=>intro _;simp [jaV]
  | cons u us ih=>
   intro h;have h1:=h u (by simp);have h2:=ih λv hv=>h v (by simp [hv]);simp only [jE,jaV];omega
 have h:=this t.args ih;rw [jS,jht];omega
theorem jkM (ts:List T) (hl:ts.length<=9223372036854775807) (hn:jE ts<=1048577) (ih:∀t∈ts,∃r:Nat,G 110 [tm t]=some (vi r,[])/\r<=nodes t/\(nodes t<=30->r=nodes t)/\(30 < nodes t->30 < r)) :
  ∀i,i<=ts.length-> ∀a:Nat,a+jE (ts.drop i)<=1048578-> ∃r:Nat,jeo (vi a) (zl ts) (vi (ts.length:Nat)) (vi i)=some (vi r,[])/\r<=a+jE (ts.drop i)/\(a+jE (ts.drop i)<=30->r=a+jE (ts.drop i))/\(30 < a+jE (ts.drop i)->30 < r):=by
 refine upto ?_ ?_
 ·intro a ha;rw [jhJ,zw];simp only [jr,jE,zJ];exact ⟨a,rfl,jV _,λ_=>rfl,λh=>h⟩
 ·intro i hi ih' a ha;have hlt:(i:Int) < ((ts.length:Nat):Int):=by omega
  have h5:=jB hi hl;rw [jA hi] at ha ⊢;simp only [jE] at ha ⊢;obtain ⟨r1,e1,b1,b2,b3⟩:=ih ts[i] (zf _);by_cases hc:(30:Int) < (a:Int)
  ·refine ⟨a,?_,by omega,by omega,by omega⟩;rw [jhJ];simp only [jr,hlt,jb hi,jg,hc]
  ·have hk:ck ((a:Int)+(r1:Int))=some (vi ((a+r1:Nat):Int)):=by rw [qK (by omega) (by omega)];rfl
   obtain ⟨r2,e2,c1,c2,c3⟩:=ih' (a+r1) (by omega);refine ⟨r2,?_,by omega,by omega,by omega⟩;rw [jhJ];simp only [jr,hlt,jb hi,jg,hc,e1,hk,h5,e2]
theorem size_eq:∀t:T,qB t->tsz t<=1048576-> ∃r:Nat,G 110 [tm t]=some (vi r,[])/\r<=nodes t/\(nodes t<=30->r=nodes t)/\(30 < nodes t->30 < r):=by
 refine T.ind λt ih hw hs=> ?_;obtain ⟨w1,w2,w3⟩:=(j5 t).1 hw;have w3:=(jC _).1 w3;have hn:=yB t;rw [jS] at hn;rw [zH] at hs;obtain ⟨r,h1,h2,h3,h4⟩:=jkM t.args w2 (by rw [zH] at hn;omega) (λu hu=>ih u hu (w3 u hu) (by have:=zW hu;omega)) 0 (zZ _) 1 (by rw [zH] at hn;simp;omega);simp only [kV,ya,jfp] at h1 h2 h3 h4;refine ⟨r,?_,by rw [jS];exact h2,by rw [jS];exact h3,by rw [jS];exact h4⟩;rw [jr6];simp only [jr,h1]
theorem jkf (n:List UInt8) (most:Int) (hm1: -1048600<=most) (hm:most<=1048576) (ts:List T) (hl:ts.length<=9223372036854775807) (ih:∀t∈ts,∀m:Int,-1048600<=m->m<=1048576-> ∃r:Nat,G 104 [tm t,vi m]=some (vi r,[])/\1<=r/\r<=nodes t/\((nodes t:Int)<=m->r=nodes t)/\(m < nodes t->m < r)) :
  ∀i,i<=ts.length-> ∀a:Nat,1<=a->a+jE (ts.drop i)<=1048578-> ∃r:Nat,jel (vi most) (vi a) (vi i) (sv n) (zl ts)=some (vi r,[])/\1<=r/\r<=a+jE (ts.drop i)/\(((a+jE (ts.drop i):Nat):Int)<=most->r=a+jE (ts.drop i))/\(most < ((a+jE (ts.drop i):Nat):Int)->most < r):=by
 refine upto ?_ ?_
 ·intro a h1 ha;rw [jhI,zw];simp only [jr,jE,zJ];exact ⟨a,rfl,h1,jV _,λ_=>rfl,λh=>h⟩
 ·intro i hi ih' a h1 ha;have hlt:(i:Int) < ((ts.length:Nat):Int):=by omega
  have h5:=jB hi hl;rw [jA hi] at ha ⊢;simp only [jE] at ha ⊢;by_cases hc:(a:Int)<=most
  ·obtain ⟨r1,e1,b0,b1,b2,b3⟩:=ih ts[i] (zf _) (most - a) (by omega) (by omega);have hk0:ck (most - (a:Int))=some (vi (most - a)):=qK (by omega) (by omega);have hk:ck ((a:Int)+(r1:Int))=some (vi ((a+r1:Nat):Int)):=by rw [qK (by omega) (by omega)];rfl
   obtain ⟨r2,e2,c0,c1,c2,c3⟩:=ih' (a+r1) (by omega) (by omega);refine ⟨r2,?_,by omega,by omega,by omega,by omega⟩;rw [jhI];simp only [jr,hlt,jb hi,jg,hc,hk0,e1,hk,h5,e2]
  ·refine ⟨a,?_,h1,by omega,by omega,by omega⟩;rw [jhI];simp only [jr,hlt,hc]
theorem jnM:∀t:T,qB t->tsz t<=1048576-> ∀m:Int,-1048600<=m->m<=1048576-> ∃r:Nat,G 104 [tm t,vi m]=some (vi r,[])/\1<=r/\r<=nodes t/\((nodes t:Int)<=m->r=nodes t)/\(m < nodes t->m < r):=by
 refine T.ind λt ih hw hs m hm1 hm=> ?_;obtain ⟨w1,w2,w3⟩:=(j5 t).1 hw;have w3:=(jC _).1 w3;have hn:=yB t;rw [jS] at hn;obtain ⟨r,h1,h0,h2,h3,h4⟩:=jkf t.name m hm1 hm t.args w2 (λu hu m h1 h2=>ih u hu (w3 u hu) (by have:=zW hu;rw [zH] at hs;omega) m h1 h2) 0 (zZ _) 1 (jV _) (by simp;omega);simp only [kV,ya,jfp] at h1 h2 h3 h4;refine ⟨r,?_,h0,by rw [jS];exact h2,by rw [jS];exact h3,by rw [jS];exact h4⟩;rw [jr3];simp only [jr,h1]
theorem jhu (ts:List T) (hl:ts.length<=9223372036854775807) (hn:jE ts<=1048577) (ih:∀t∈ts,G 111 [tm t]=some (vi (dep t:Nat),[])) :
  ∀i,i<=ts.length-> ∀a:Nat,a<=1048577->jep (vi a) (zl ts) (vi (ts.length:Nat)) (vi i)=some (vi ((max a (jaV (ts.drop i))+1:Nat):Int),[]):=by
 refine upto ?_ ?_
 ·intro a ha;have hk:ck ((a:Int)+1)=some (vi ((a+1:Nat):Int)):=by rw [qK (by omega) (by omega)];rfl
  rw [jlV,zw];simp only [jr,jaV,hk,Nat.max_zero]
 ·intro i hi ih' a ha;have hlt:(i:Int) < ((ts.length:Nat):Int):=by omega
  have h5:=jB hi hl;have e1:=ih ts[i] (zf _);have hd:dep ts[i]<=1048577:=zK (jls _) (zK (yj (zf hi)) hn);have hmx:(if (a:Int) < ((dep ts[i]:Nat):Int) then ((dep ts[i]:Nat):Int) else (a:Int))=((max a (dep ts[i]):Nat):Int):=by split<;>omega
  have ih':=ih' (max a (dep ts[i])) (by omega);rw [jlV,jA hi];simp only [jr,hlt,jb hi,jg,e1,hmx,h5,ih',jaV,Nat.max_assoc]
theorem jlt:∀t:T,qB t->tsz t<=1048576->G 111 [tm t]=some (vi (dep t:Nat),[]):=by
 refine T.ind λt ih hw hs=> ?_;obtain ⟨w1,w2,w3⟩:=(j5 t).1 hw;have w3:=(jC _).1 w3;have hn:=yB t;rw [jS] at hn;have h1:=jhu t.args w2 (by omega) (λu hu=>ih u hu (w3 u hu) (by have:=zW hu;rw [zH] at hs;omega)) 0 (zZ _) 0 (by omega);simp only [kV,ya,Nat.zero_max] at h1;rw [jr7,jht,Nat.add_comm];simp only [jr,h1]
theorem jnQ (a b:Nat):G 123 [vi a,vi b]=some (vi ((max a b:Nat):Int),[]):=by
 rw [jsc];by_cases h:(b:Int) < (a:Int)
 ·simp only [jr,h];rw [Nat.max_eq_left (by omega)]
 ·simp only [jr,h];rw [Nat.max_eq_right (by omega)]
theorem jeN (n:List UInt8) (ts:List T) (hl:ts.length<=9223372036854775807) (hn:jE ts<=1048577) (ih:∀t∈ts,G 105 [tm t]=some (vi (dep t:Nat),[])) :
  ∀i,i<=ts.length-> ∀a:Nat,a<=1048577->jem (vi a) (vi i) (sv n) (zl ts)=some (vi ((max a (jaV (ts.drop i))+1:Nat):Int),[]):=by
 refine upto ?_ ?_
 ·intro a ha;have hk:ck ((a:Int)+1)=some (vi ((a+1:Nat):Int)):=by rw [qK (by omega) (by omega)];rfl
  rw [jlT,zw];simp only [jr,jaV,hk,Nat.max_zero]
 ·intro i hi ih' a ha;have hlt:(i:Int) < ((ts.length:Nat):Int):=by omega
  have h5:=jB hi hl;have e1:=ih ts[i] (zf _);have e2:=jnQ a (dep ts[i]);have hd:dep ts[i]<=1048577:=zK (jls _) (zK (yj (zf hi)) hn);have ih':=ih' (max a (dep ts[i])) (by omega);rw [jlT,jA hi];simp only [jr,hlt,jb hi,jg,e1,e2,h5,ih',jaV,Nat.max_assoc]
theorem jhL:∀t:T,qB t->tsz t<=1048576->G 105 [tm t]=some (vi (dep t:Nat),[]):=by
 refine T.ind λt ih hw hs=> ?_;obtain ⟨w1,w2,w3⟩:=(j5 t).1 hw;have w3:=(jC _).1 w3;have hn:=yB t;rw [jS] at hn;have h1:=jeN t.name t.args w2 (by omega) (λu hu=>ih u hu (w3 u hu) (by have:=zW hu;rw [zH] at hs;omega)) 0 (zZ _) 0 (by omega);simp only [kV,ya,Nat.zero_max] at h1;rw [jr4,jht,Nat.add_comm];simp only [jr,h1]
def JH (t:T):Bool:=decide (nodes t<=30) && decide (dep t<=8)
def jqd (t:T):Bool:=JH t && KW t
theorem jhB (t:T) (hw:qB t) (hs:tsz t<=1048576):G 78 [tm t]=some (vb (JH t),[]):=by
 obtain ⟨r,h1,h2,h3,h4⟩:=size_eq t hw hs;have hd:=jlt t hw hs;rw [g78];by_cases h:nodes t<=30
 ·have:(r:Int)<=30:=by have:=h3 h;omega
  have e:decide (((dep t:Nat):Int)<=8)=decide (dep t<=8):=by congr 1;exact propext (by omega)
  simp only [jr,h1,hd,this,JH,h,e,jQ]
 ·have:¬(r:Int)<=30:=by have:=h4 (by omega);omega
  simp only [jr,h1,this,JH,h,jK]
theorem jj7 (t:T) (hw:qB t) (hs:tsz t<=1048576):G 71 [tm t]=some (vb (JH t),[]):=by
 obtain ⟨r,h1,h0,h2,h3,h4⟩:=jnM t hw hs 30 (by decide) (by decide);have hd:=jhL t hw hs;rw [g71];by_cases h:nodes t<=30
 ·have:(r:Int)<=30:=by have:=h3 (by omega);omega
  have e:decide (((dep t:Nat):Int)<=8)=decide (dep t<=8):=by congr 1;exact propext (by omega)
  simp only [jr,h1,hd,this,JH,h,e,jQ]
 ·have:¬(r:Int)<=30:=by have:=h4 (by omega);omega
  simp only [jr,h1,this,JH,h,jK]
theorem jaX {f:FuncId} {caps:List A} (hsig:K.pureF f=true) (p:T->Bool) (ts:List T) (hl:ts.length<=9223372036854775807) (h:∀t∈ts,G f (tm t::caps)=some (vb (p t),[])) :
  ∃r:Int,G 106 [zl ts,.fn f caps]=some (vi r,[])/\decide (0<=r)=ts.any p:=by
 have key:=upto (P:=λi=>∃r:Int,jen (zl ts) (.fn f caps) (vi (ts.length:Nat)) (vi i)=some (vi r,[])/\decide (0<=r)=(ts.drop i).any p) (n:=ts.length) ?_ ?_ 0 (zZ _)
 ·obtain ⟨r,h1,h2⟩:=key;simp only [ya,kV] at h1 h2;refine ⟨r,?_,h2⟩;rw [jr5];simp only [jr,h1]
 ·refine ⟨-1,?_,by simp⟩;rw [jlU];simp only [jr]
 ·intro i hi ih;obtain ⟨r,h1,h2⟩:=ih;have hlt:(i:Int) < ((ts.length:Nat):Int):=by omega
  have h5:=jB hi hl;have e1:=h ts[i] (zf _);rw [jlU,jA hi,List.any_cons];cases hp:p ts[i]<;>rw [hp] at e1
  ·refine ⟨r,?_,by rw [h2,jZ]⟩;simp only [jr,hlt,jb hi,jg,Ko hsig,JO,Jb,e1,h5,h1]
  ·refine ⟨i,?_,by simp⟩;simp only [jr,hlt,jb hi,jg,Ko hsig,JO,Jb,e1]
theorem Zk {f:FuncId} {caps:List A} (hsig:K.pureF f=true) (p:T->Bool) (ts:List T) (hl:ts.length<=9223372036854775807) (h:∀t∈ts,G f (tm t::caps)=some (vb (p t),[])) :
  G 74 [zl ts,.fn f caps]=some (vb (ts.any p),[]):=by
 obtain ⟨r,h1,h2⟩:=jaX hsig p ts hl h;rw [g74];simp only [jr,h1,h2]
theorem jai (p:T->Bool) (ts:List T):(ts.any λt=> !p t)=!ts.all p:=by
 induction ts with
 | nil=>rfl
 | cons t ts ih=>rw [List.any_cons,zk,ih];cases p t<;>rfl
theorem jat:∀t:T,qB t->G 88 [tm t]=some (vb (KW t),[]):=by
 refine T.ind λt ih hw=> ?_;obtain ⟨w1,w2,w3⟩:=(j5 t).1 hw;have w3:=(jC _).1 w3;have e1:=jc9 t.name w1;have e2:=jau t.name w1;have e3:=Zk (f:=114) (caps:=[]) rfl (λu=> !KW u) t.args w2 (λu hu=>by
  have:=ih u hu (w3 u hu);rw [jsa];simp only [jr,this])
 rw [jai,<-jcf] at e3;rw [g88,YB];have e4:decide (((t.args.length:Nat):Int)=0)=t.args.isEmpty:=by cases t.args<;>simp;omega
 have e5:decide (((t.args.length:Nat):Int)<=4)=decide (t.args.length<=4):=by congr 1;exact propext (by omega)
 cases hv:kS t.name<;>rw [hv] at e1
 ·cases hy:Kz t.name<;>rw [hy] at e2
  ·simp only [jr,e1,e2,jK]
  ·cases ha:decide (t.args.length<=4)<;>rw [ha] at e5
   ·simp only [jr,e1,e2,e5,jK,jQ]
   ·simp only [jr,e1,e2,e5,e3,jQ,Bool.not_not]
 ·simp only [jr,e1,e4]
theorem jb2:∀t:T,qB t->G 72 [tm t]=some (vb (KW t),[]):=by
 refine T.ind λt ih hw=> ?_;obtain ⟨w1,w2,w3⟩:=(j5 t).1 hw;have w3:=(jC _).1 w3;have e1:=Kt t.name w1;have e2:=jay t.name w1;have key:=upto (P:=λi=>jiK (vi i) (sv t.name) (zl t.args)=some (vb (jgx (t.args.drop i)),[])) (n:=t.args.length) ?_ ?_ 0 (zZ _)
 ·simp only [ya,kV] at key;rw [g72,YB];have e4:decide (((t.args.length:Nat):Int)=0)=t.args.isEmpty:=by cases t.args<;>simp;omega
  cases hv:kS t.name<;>rw [hv] at e1
  ·cases hy:Kz t.name<;>rw [hy] at e2
   ·simp only [jr,e1,e2,jK]
   ·by_cases ha:4 < ((t.args.length:Nat):Int)
    ·have:¬t.args.length<=4:=by omega
     simp only [jr,e1,e2,ha,this,jK,kM]
    ·have:t.args.length<=4:=by omega
     simp only [jr,e1,e2,ha,this,key,jQ]
  ·simp only [jr,e1,e4]
 ·rw [joW,zw];simp only [jr,jgx]
 ·intro i hi ih';have hlt:(i:Int) < ((t.args.length:Nat):Int):=by omega
  have h5:=jB hi w2;have e3:=ih t.args[i] (zf _) (w3 _ (zf _));rw [joW,jA hi,jgx];cases hp:KW t.args[i]<;>rw [hp] at e3
  ·simp only [jr,hlt,jb hi,jg,e3,jK]
  ·simp only [jr,hlt,jb hi,jg,e3,h5,ih',jQ]
theorem jtj (t:T) (hw:qB t) (hs:tsz t<=1048576):G 73 [tm t]=some (vb (jqd t),[]):=by
 have e1:=jhB t hw hs;have e2:=jat t hw;rw [g73,jqd];cases h:JH t<;>rw [h] at e1<;>simp only [jr,e1,e2,jQ,jK]
theorem jhV (t:T) (hw:qB t) (hs:tsz t<=1048576):G 43 [tm t]=some (vb (jqd t),[]):=by
 have e1:=jj7 t hw hs;have e2:=jb2 t hw;rw [g43,jqd];cases h:JH t<;>rw [h] at e1<;>simp only [jr,e1,e2,jQ,jK]
theorem yC {xs:List Int} {i:Nat} (h:i < xs.length):jw 1 (ints xs) (vi i)=some (.elt (ci xs[i]) 0):=jb h
def jfP (o:Ord') (i:Nat):Bool:=Kz (o.syms.getD i []) && (!(o.syms.take i).contains (o.syms.getD i []) && Kh o.var 100 (o.ws.getD i 0))
def kL (o:Ord'):Bool:=Kh 1 12 (o.syms.length:Nat) && (decide (o.ws.length=o.syms.length) && (Kh 1 100 o.var && (List.range o.syms.length).all (jfP o)))
theorem jcq {n i:Nat} (h:i < n):(List.range n).drop i=i::(List.range n).drop (i+1):=by
 have h':i < (List.range n).length:=by simpa using h
 rw [jm1 h',List.getElem_range]
theorem jgj (o:Ord') (hw:owf o) (hl:o.ws.length=o.syms.length):∀i,i<=o.syms.length->jiA (vi i) (strs o.syms) (ints o.ws) (vi o.var)=some (vb (((List.range o.syms.length).drop i).all (jfP o)),[]):=by
 refine upto ?_ ?_
 ·rw [joH,jei (by simp)];simp only [jr]
 ·intro i hi ih;have hlt:(i:Int) < ((o.syms.length:Nat):Int):=by omega
  have hi2:i < o.ws.length:=by omega
  have h5:=jB hi hw.1.2;have hs:=hw.1.1 o.syms[i] (zf _);have e1:=jay o.syms[i] hs;have hsl:zU 1 (strs o.syms) none (some (vi i))=some (strs (o.syms.take i)):=by rw [JY (by simp;omega),<-jm3]
  have e2:=jnL (o.syms.take i) o.syms[i] (by rw [jfv];exact zK (Nat.min_le_right _ _) hw.1.2)
  have e3:=KV o.ws[i] o.var 100;have hc:jfP o i=(Kz o.syms[i] && (!(o.syms.take i).contains o.syms[i] && Kh o.var 100 o.ws[i])):=by simp [jfP,jU,hi,hi2]
  rw [joH,jcq hi,zk,hc];cases h1:Kz o.syms[i]<;>rw [h1] at e1
  ·simp only [jr,hlt,jb hi,e1,jK]
  ·cases h2:(o.syms.take i).contains o.syms[i]<;>rw [h2] at e2
   ·cases h3:Kh o.var 100 o.ws[i]<;>rw [h3] at e3
    ·simp only [jr,hlt,jb hi,yC hi2,e1,hsl,e2,e3,jK,jQ]
    ·simp only [jr,hlt,jb hi,yC hi2,e1,hsl,e2,e3,h5,ih,jQ]
   ·simp only [jr,hlt,jb hi,e1,hsl,e2,jK,jQ]
theorem jkb (o:Ord') (hw:owf o):G 24 [od o]=some (vb (kL o),[]):=by
 have e1:=KV (o.syms.length:Nat) 1 12;have e2:=KV o.var 1 100;rw [g24,kL];cases h1:Kh 1 12 (o.syms.length:Nat)<;>rw [h1] at e1
 ·simp only [jr,e1,jK]
 ·by_cases h2:o.ws.length=o.syms.length
  ·have h2':((o.ws.length:Nat):Int)=((o.syms.length:Nat):Int):=by rw [h2]
   have key:=jgj o hw h2 0 (zZ _);simp only [ya,kV] at key;cases h3:Kh 1 100 o.var<;>rw [h3] at e2
   ·simp only [jr,e1,h2',e2,jK,kM]
   ·simp only [jr,e1,h2',h2,e2,key,jQ]
  ·have h2':¬((o.ws.length:Nat):Int)=((o.syms.length:Nat):Int):=by omega
   simp only [jr,e1,h2',h2,jK,jQ]
mutual
def y9 (l:List (List UInt8)):T->Bool
 | .mk n us=>(kS n || l.contains n) && Jx l us
def Jx (l:List (List UInt8)):List T->Bool
 | []=>true
 | t::ts=>y9 l t && Jx l ts
end
theorem yR (l:List (List UInt8)) (t:T):y9 l t=((kS t.name || l.contains t.name) && Jx l t.args):=by cases t;rfl
theorem Kr (l:List (List UInt8)):∀ts,Jx l ts=ts.all (y9 l)
 | []=>rfl
 | t::ts=>by rw [Jx,Kr l ts,zk]
theorem yV {t:T} (h:KW t=true):∀u∈t.args,KW u=true:=by
 rw [YB] at h;intro u hu;split at h
 ·rw [jfl.1 h] at hu;cases hu
 ·simp only [js] at h;rw [jcf] at h;exact qg.1 h.2.2 u hu
theorem jl8 {t:T} (h:KW t=true):∃c r,t.name=c::r/\kS t.name=upc c/\(upc c=false->Kz t.name=true):=by
 rw [YB] at h;cases hn:t.name with
 | nil=>rw [hn] at h;simp [kS,Kz] at h
 | cons c r=>
  refine ⟨c,r,rfl,?_,?_⟩
  ·rw [hn] at h;cases hu:upc c with
   | false=>simp [kS,hu]
   | true=>
    cases hv:kS (c::r) with
    | true=>rfl
    | false=>
     rw [hv] at h;have:QY c=false:=by
      simp only [upc,Kh,QY,js,JP] at hu ⊢;have:¬(97<=(c.toNat:Int)):=by omega
      simp [this]
     simp [Kz,this] at h
  ·intro hu;rw [hn] at h;have:kS (c::r)=false:=by simp [kS,hu]
   rw [this] at h;simp at h;exact h.1
theorem Zq (t:T) (h:KW t=true):G 89 [tm t]=some (vb (kS t.name),[]):=by
 obtain ⟨c,r,hn,hv,_⟩:=jl8 h;have e1:=jbZ c;rw [<-hv] at e1;rw [g89];have hx:jaH (sv t.name) (vi 0)=some (vy (c.toNat:Int)):=by rw [hn];exact yr
 simp only [jr,hx,e1]
theorem jaz (o:Ord') (ho:o.syms.length<=9223372036854775807):∀t:T,qB t->G 52 [od o,tm t]=some (vb (y9 o.syms t),[]):=by
 refine T.ind λt ih hw=> ?_;obtain ⟨w1,w2,w3⟩:=(j5 t).1 hw;have w3:=(jC _).1 w3;have e1:=Kt t.name w1;have e2:=jbj o t.name ho;have e2':=jj4 t.name o.syms;have key:=upto (P:=λi=>jiI (vi i) (strs o.syms) (ints o.ws) (vi o.var) (sv t.name) (zl t.args)=some (vb (Jx o.syms (t.args.drop i)),[])) (n:=t.args.length) ?_ ?_ 0 (zZ _)
 ·simp only [ya,kV] at key;rw [g52,yR];cases hv:kS t.name<;>rw [hv] at e1
  ·cases hc:o.syms.contains t.name<;>rw [hc] at e2'
   ·simp only [jr,e1,e2,e2',jZ,jK]
   ·simp only [jr,e1,e2,e2',key,jZ,jQ]
  ·simp only [jr,e1,key,zB,jQ]
 ·rw [joQ,zw];simp only [jr,Jx]
 ·intro i hi ih';have hlt:(i:Int) < ((t.args.length:Nat):Int):=by omega
  have h5:=jB hi w2;have e3:=ih t.args[i] (zf _) (w3 _ (zf _));rw [joQ,jA hi,Jx];cases hp:y9 o.syms t.args[i]<;>rw [hp] at e3
  ·simp only [jr,hlt,jb hi,jg,e3,jK]
  ·simp only [jr,hlt,jb hi,jg,e3,h5,ih',jQ]
def jlI (o:Ord') (t:T):Bool:=jqd t && y9 o.syms t
theorem jtK (o:Ord') (t:T) (ho:o.syms.length<=9223372036854775807) (hw:qB t) (hs:tsz t<=1048576):G 129 [od o,tm t]=some (vb (jlI o t),[]):=by
 have e1:=jhV t hw hs;have e2:=jaz o ho t hw;rw [jyj,jlI];cases h:jqd t<;>rw [h] at e1<;>simp only [jr,e1,e2,jQ,jK]
def jfc (o:Ord') (n:List UInt8):Int:=match zF n o.syms with|some k=>o.ws.getD k 0|none=>0
mutual
def wt (o:Ord'):T->Int
 | .mk n us=>(if kS n then o.var else jfc o n)+wtL o us
def wtL (o:Ord'):List T->Int
 | []=>0
 | t::ts=>wt o t+wtL o ts
end
theorem jmX (o:Ord') (t:T):wt o t=(if kS t.name then o.var else jfc o t.name)+wtL o t.args:=by cases t;rfl
theorem ZJ {o:Ord'} (h:kL o=true):o.ws.length=o.syms.length/\1<=o.var/\o.var<=100/\ ∀i,i < o.syms.length->o.var<=o.ws.getD i 0/\o.ws.getD i 0<=100:=by
 simp only [kL,js,JP,Kh] at h;obtain ⟨_,h2,⟨h3,h4⟩,h5⟩:=h;refine ⟨h2,h3,h4,λi hi=> ?_⟩;have:=qg.1 h5 i (by simpa using hi);simp only [jfP,js,Kh,JP] at this;exact this.2.2
theorem jbJ {o:Ord'} {n:List UInt8} (h:o.syms.contains n=true):∃k,zF n o.syms=some k/\k < o.syms.length:=by
 rw [<-JW] at h;obtain ⟨k,hk⟩:=Option.isSome_iff_exists.1 h;exact ⟨k,hk,(jbb hk).1⟩
theorem jfd {o:Ord'} (hv:kL o=true) {n:List UInt8} (h:o.syms.contains n=true):jw 1 (ints o.ws) (vi (kP 0 (zF n o.syms)))=some (.elt (ci (jfc o n)) 0)/\1<=jfc o n/\jfc o n<=100:=by
 obtain ⟨k,hk,hlt⟩:=jbJ h;obtain ⟨h1,h2,h3,h4⟩:=ZJ hv;have h5:=h4 k hlt;have hlt':k < o.ws.length:=by omega
 have e:jfc o n=o.ws[k]:=by simp [jfc,hk,jU,hlt']
 rw [hk];have e2:kP 0 (some k)=((k:Nat):Int):=by simp [kP]
 rw [e2,yC hlt',e];have e3:o.ws.getD k 0=o.ws[k]:=by simp [jU,hlt']
 rw [e3] at h5;exact ⟨rfl,by omega,by omega⟩
theorem ZM {o:Ord'} (hv:kL o=true):∀t:T,y9 o.syms t=true->1<=wt o t/\wt o t<=100 * nodes t:=by
 refine T.ind λt ih hc=> ?_;rw [yR,js] at hc;obtain ⟨h1,h2,h3,_⟩:=ZJ hv;have hL:∀ts:List T,(∀u∈ts,1<=wt o u/\wt o u<=100 * nodes u)->0<=wtL o ts/\wtL o ts<=100 * jE ts:=by
  intro ts;induction ts with
  | nil=>intro _;simp [wtL,jE]
  | cons u us ih=>
   intro h;have a:=h u (by simp);have b:=ih λv hv=>h v (by simp [hv]);simp only [wtL,jE];omega
 have hb:=hL t.args λu hu=>ih u hu (by
  have:=hc.2;rw [Kr] at this;exact qg.1 this u hu)
 rw [jmX,jS];cases hn:kS t.name with
 | true=>simp only [yf];omega
 | false=>
  have hcn:=hc.1;rw [hn,jZ] at hcn;have:=(jfd hv hcn).2;simp only [ZP,KC];omega
theorem Z7 {o:Ord'} (hv:kL o=true) {ts:List T} (hc:Jx o.syms ts=true):0<=wtL o ts/\wtL o ts<=100 * jE ts:=by
 induction ts with
 | nil=>simp [wtL,jE]
 | cons u us ih=>
  simp only [Jx,js] at hc;have a:=ZM hv u hc.1;have b:=ih hc.2;simp only [wtL,jE];omega
theorem jbI {l:List (List UInt8)} {ts:List T} (h:Jx l ts=true) (i:Nat):Jx l (ts.drop i)=true:=by
 rw [Kr] at h ⊢;exact qg.2 λu hu=>qg.1 h u (jfn hu)
theorem yK {l:List (List UInt8)} {ts:List T} (h:Jx l ts=true) {u:T} (hu:u∈ts):y9 l u=true:=by
 rw [Kr] at h;exact qg.1 h u hu
theorem jg9 {o:Ord'} (hv:kL o=true) (ts:List T) (hl:ts.length<=9223372036854775807) (hn:jE ts<=1048577) (hc:Jx o.syms ts=true) (ih:∀t∈ts,G 94 [od o,tm t]=some (vi (wt o t),[])) :
  ∀i,i<=ts.length-> ∀a:Int,0<=a->a+wtL o (ts.drop i)<=200000000->jiP (vi a) (zl ts) (vi (ts.length:Nat)) (vi i) (strs o.syms) (ints o.ws) (vi o.var)=some (vi (a+wtL o (ts.drop i)),[]):=by
 refine upto ?_ ?_
 ·intro a ha hb;rw [jo3,zw];simp only [jr,wtL,Int.add_zero]
 ·intro i hi ih' a ha hb;have hlt:(i:Int) < ((ts.length:Nat):Int):=by omega
  have h5:=jB hi hl;have e1:=ih ts[i] (zf _);have b1:=ZM hv ts[i] (yK hc (zf _));have b2:=Z7 hv (jbI hc (i+1));rw [jA hi] at hb ⊢;simp only [wtL] at hb ⊢;have hk:ck (a+wt o ts[i])=some (vi (a+wt o ts[i])):=qK (by omega) (by omega);have ih':=ih' (a+wt o ts[i]) (by omega) (by omega);rw [jo3];simp only [jr,hlt,jb hi,jg,e1,hk,h5,ih',Int.add_assoc]
theorem jea {o:Ord'} (hv:kL o=true) (ho:o.syms.length<=9223372036854775807):∀t:T,qB t->tsz t<=1048576->KW t=true->y9 o.syms t=true->G 94 [od o,tm t]=some (vi (wt o t),[]):=by
 refine T.ind λt ih hw hs hk hc=> ?_;obtain ⟨w1,w2,w3⟩:=(j5 t).1 hw;have w3:=(jC _).1 w3;have e1:=Zq t hk;have hb:=ZM hv t hc;have hn:=yB t;rw [jS] at hn;rw [jS] at hb;have hks:=yV hk;rw [YB] at hk;rw [yR,js] at hc;rw [jmX] at hb ⊢;rw [g94];cases hvn:kS t.name<;>rw [hvn] at e1 hc hk hb
 ·have hcn:=hc.1;rw [jZ] at hcn;obtain ⟨e2,e3,e4⟩:=jfd hv hcn;have e5:=KQ o.syms t.name ho;have hbl:=Z7 hv hc.2;have key:=jg9 hv t.args w2 (by omega) hc.2 (λu hu=>ih u hu (w3 u hu) (by have:=zW hu;rw [zH] at hs;omega) (hks u hu) (yK hc.2 hu)) 0 (zZ _) (jfc o t.name) (by omega) (by simp only [kV];omega);simp only [ya,kV] at key;simp only [jr,e1,e5,e2,key]
 ·simp only [yf] at hk;have:t.args = []:=jfl.1 hk;rw [this];simp only [jr,e1,wtL,Int.add_zero]
theorem jdd {o:Ord'} (hv:kL o=true) (n:List UInt8) (ts:List T) (hl:ts.length<=9223372036854775807) (hc:Jx o.syms ts=true) (ih:∀t∈ts,G 54 [od o,tm t]=some (vi (wt o t),[])) :
  ∀i,i<=ts.length-> ∀a:Int,0<=a->a+wtL o (ts.drop i)<=200000000->jfz (vi a) (vi i) (strs o.syms) (ints o.ws) (vi o.var) (sv n) (zl ts)=some (vi (a+wtL o (ts.drop i)),[]):=by
 refine upto ?_ ?_
 ·intro a ha hb;rw [joS,zw];simp only [jr,wtL,Int.add_zero]
 ·intro i hi ih' a ha hb;have hlt:(i:Int) < ((ts.length:Nat):Int):=by omega
  have h5:=jB hi hl;have e1:=ih ts[i] (zf _);have b1:=ZM hv ts[i] (yK hc (zf _));have b2:=Z7 hv (jbI hc (i+1));rw [jA hi] at hb ⊢;simp only [wtL] at hb ⊢;have hk:ck (a+wt o ts[i])=some (vi (a+wt o ts[i])):=qK (by omega) (by omega);have ih':=ih' (a+wt o ts[i]) (by omega) (by omega);rw [joS];simp only [jr,hlt,jb hi,jg,e1,hk,h5,ih',Int.add_assoc]
theorem jaA {o:Ord'} (hv:kL o=true) (ho:o.syms.length<=9223372036854775807):∀t:T,qB t->tsz t<=1048576->y9 o.syms t=true->G 54 [od o,tm t]=some (vi (wt o t),[]):=by
 refine T.ind λt ih hw hs hc=> ?_;obtain ⟨w1,w2,w3⟩:=(j5 t).1 hw;have w3:=(jC _).1 w3;have e1:=Kt t.name w1;have hb:=ZM hv t hc;have hn:=yB t;rw [jS] at hn;rw [jS] at hb;obtain ⟨_,v2,v3,_⟩:=ZJ hv;rw [yR,js] at hc;rw [jmX] at hb ⊢;rw [g54];have hbl:=Z7 hv hc.2;have key:=λa h1 h2=>jdd hv t.name t.args w2 hc.2 (λu hu=>ih u hu (w3 u hu) (by have:=zW hu;rw [zH] at hs;omega) (yK hc.2 hu)) 0 (zZ _) a h1 h2;simp only [ya,kV] at key;cases hvn:kS t.name<;>rw [hvn] at e1 hc hb
 ·have hcn:=hc.1;rw [jZ] at hcn;obtain ⟨e2,e3,e4⟩:=jfd hv hcn;have e5:=jbj o t.name ho;have key:=key (jfc o t.name) (by omega) (by omega);simp only [jr,e1,e5,e2,key]
 ·have key:=key o.var (by omega) (by omega);simp only [jr,e1,key]
theorem jtJ {o:Ord'} {t:T} (h:jlI o t=true):KW t=true/\y9 o.syms t=true/\nodes t<=30:=by
 simp only [jlI,jqd,JH,js,JP] at h;exact ⟨h.1.2,h.2,h.1.1.1⟩
def jqb (o:Ord') (t:T):A:=if kL o && jlI o t then .tup [vi (wt o t),vb true] else .tup [vi 0,vb false]
theorem jgC (a b:A):zz 2 (.elt [a,b] 0)=some (.agg [a,b]):=rfl
theorem jgD (a b c:A):zz 3 (.elt [a,b,c] 0)=some (.agg [a,b,c]):=rfl
noncomputable def dq {α:Type} (a b:α):Bool:=@decide (a=b) (Classical.propDecidable _)
theorem jc4 {α:Type} {a b:α} :dq a b=true↔a=b:=by unfold dq;exact @jfs _ (Classical.propDecidable _)
theorem jlu {α:Type} {a b:α} :dq a b=false↔ ¬a=b:=by unfold dq;exact @jiu _ (Classical.propDecidable _)
theorem ji1 {α:Type} (a:α):dq a a=true:=jc4.2 rfl
theorem ji0 {α:Type} (a b:α) (l r:List α):dq (a::l) (b::r)=(dq a b && dq l r):=by
 rw [Bool.eq_iff_iff,js,jc4,jc4,jc4,yE]
theorem jqN (s t:T):dq s t=(decide (s.name=t.name) && dq s.args t.args):=by
 cases s with
 | mk n us=>cases t with
  | mk m vs=>rw [Bool.eq_iff_iff,js,jc4,jc4,jfs,T.mk.injEq];rfl
theorem jlv {α:Type} {a b:List α} (h:¬a.length=b.length):dq a b=false:=jlu.2 λe=>h (by rw [e])
theorem jaW (ts us:List T) (hl:ts.length<=9223372036854775807) (hlen:ts.length=us.length) (ih:∀t∈ts,∀u∈us,G 65 [tm t,tm u]=some (vb (dq t u),[])) :
  ∀i,i<=ts.length->jiO (zl us) (.fn 65 []) (zl ts) (vi (ts.length:Nat)) (vi i)=some (vb (dq (ts.drop i) (us.drop i)),[]):=by
 refine upto ?_ ?_
 ·rw [jo1,zw,hlen,zw,ji1];simp only [jr]
 ·intro i hi ih';have hlt:(i:Int) < ((ts.length:Nat):Int):=by omega
  have hi2:i < us.length:=by omega
  have h5:=jB hi hl;have e1:=ih ts[i] (zf _) us[i] (zf _);rw [jo1,jA hi,jA hi2,ji0];cases hp:dq ts[i] us[i]<;>rw [hp] at e1
  ·simp only [jr,hlt,jb hi,jb hi2,jg,Ko (f:=65) rfl,qO,e1,jK]
  ·simp only [jr,hlt,jb hi,jb hi2,jg,Ko (f:=65) rfl,qO,e1,h5,ih',jQ]
theorem Ye:∀s:T,qB s-> ∀t:T,qB t->G 65 [tm s,tm t]=some (vb (dq s t),[]):=by
 refine T.ind λs ih hw t hw'=> ?_;obtain ⟨w1,w2,w3⟩:=(j5 s).1 hw;have w3:=(jC _).1 w3;obtain ⟨v1,v2,v3⟩:=(j5 t).1 hw';have v3:=(jC _).1 v3;rw [g65,jqN];by_cases hn:s.name=t.name
 ·have e:G 91 [zl s.args,zl t.args,.fn 65 []]=some (vb (dq s.args t.args),[]):=by
   rw [g91];by_cases hlen:s.args.length=t.args.length
   ·have key:=jaW s.args t.args w2 hlen (λa ha b hb=>ih a ha (w3 a ha) b (v3 b hb)) 0 (zZ _);simp only [ya,kV] at key;rw [hlen] at key;simp only [jr,hlen,key]
   ·have hlen':¬((s.args.length:Nat):Int)=((t.args.length:Nat):Int):=by omega
    simp only [jr,hlen',jlv hlen]
  simp only [jr,hn,e,jQ]
 ·simp only [jr,hn,jK]
theorem jgi (n m:List UInt8) (ts us:List T) (hl:ts.length<=9223372036854775807) (hlen:ts.length=us.length) (ih:∀t∈ts,∀u∈us,G 83 [tm t,tm u]=some (vb (dq t u),[])) :
  ∀i,i<=ts.length->jiM (vi i) (sv n) (zl ts) (sv m) (zl us)=some (vb (dq (ts.drop i) (us.drop i)),[]):=by
 refine upto ?_ ?_
 ·rw [joZ,zw,hlen,zw,ji1];simp only [jr,hlen]
 ·intro i hi ih';have hlt:(i:Int) < ((ts.length:Nat):Int):=by omega
  have hi2:i < us.length:=by omega
  have h5:=jB hi hl;have e1:=ih ts[i] (zf _) us[i] (zf _);rw [joZ,jA hi,jA hi2,ji0];cases hp:dq ts[i] us[i]<;>rw [hp] at e1
  ·simp only [jr,hlt,jb hi,jb hi2,jg,e1,jK]
  ·simp only [jr,hlt,jb hi,jb hi2,jg,e1,h5,ih',jQ]
theorem jj9:∀s:T,qB s-> ∀t:T,qB t->G 83 [tm s,tm t]=some (vb (dq s t),[]):=by
 refine T.ind λs ih hw t hw'=> ?_;obtain ⟨w1,w2,w3⟩:=(j5 s).1 hw;have w3:=(jC _).1 w3;obtain ⟨v1,v2,v3⟩:=(j5 t).1 hw';have v3:=(jC _).1 v3;rw [g83,jqN];by_cases hn:s.name=t.name
 ·by_cases hlen:s.args.length=t.args.length
  ·have key:=jgi t.name t.name s.args t.args w2 hlen (λa ha b hb=>ih a ha (w3 a ha) b (v3 b hb)) 0 (zZ _);simp only [ya,kV] at key;simp only [jr,hn,hlen,key,jQ]
  ·have hlen':¬((s.args.length:Nat):Int)=((t.args.length:Nat):Int):=by omega
   simp only [jr,hn,hlen',jlv hlen,kM]
 ·simp only [jr,hn,jK]
def rk (o:Ord') (t:T):Int:=kP 0 (zF t.name o.syms)
def KN (a b:Int):Int:=if a < b then -1 else if b < a then 1 else 0
def kz (o:Ord') (s t:T):Int:=if rk o s=rk o t then KN (s.args.length:Nat) (t.args.length:Nat) else KN (rk o s) (rk o t)
theorem jn9 (o:Ord') (s t:T) (ho:o.syms.length<=9223372036854775807):G 56 [od o,tm s,tm t]=some (vi (kz o s t),[]):=by
 have e1:=jbj o s.name ho;have e2:=jbj o t.name ho;rw [g56];by_cases h:rk o s=rk o t
 ·have h':kP 0 (zF s.name o.syms)=kP 0 (zF t.name o.syms):=h;by_cases h1:((s.args.length:Nat):Int) < ((t.args.length:Nat):Int)
  ·simp only [jr,e1,e2,h',kz,rk,KN,h1]
  ·by_cases h2:((t.args.length:Nat):Int) < ((s.args.length:Nat):Int)
   ·simp only [jr,e1,e2,h',kz,rk,KN,h1,h2]
   ·simp only [jr,e1,e2,h',kz,rk,KN,h1,h2]
 ·have h':¬kP 0 (zF s.name o.syms)=kP 0 (zF t.name o.syms):=h;by_cases h1:kP 0 (zF s.name o.syms) < kP 0 (zF t.name o.syms)
  ·simp only [jr,e1,e2,h',kz,rk,KN,h1]
  ·by_cases h2:kP 0 (zF t.name o.syms) < kP 0 (zF s.name o.syms)
   ·simp only [jr,e1,e2,h',kz,rk,KN,h1,h2]
   ·simp only [jr,e1,e2,h',kz,rk,KN,h1,h2]
theorem jgF (o:Ord') (s t:T) (ho:o.syms.length<=9223372036854775807):G 95 [od o,tm s,tm t]=some (vb (decide (kz o s t < 0)),[]):=by
 have e1:=KQ o.syms s.name ho;have e2:=KQ o.syms t.name ho;rw [g95];by_cases h:rk o s=rk o t
 ·have h':kP 0 (zF s.name o.syms)=kP 0 (zF t.name o.syms):=h;by_cases h1:((s.args.length:Nat):Int) < ((t.args.length:Nat):Int)
  ·simp only [jr,e1,e2,h',kz,rk,KN,h1]
  ·by_cases h2:((t.args.length:Nat):Int) < ((s.args.length:Nat):Int)
   ·simp only [jr,e1,e2,h',kz,rk,KN,h1,h2];rfl
   ·simp only [jr,e1,e2,h',kz,rk,KN,h1,h2]
 ·have h':¬kP 0 (zF s.name o.syms)=kP 0 (zF t.name o.syms):=h;by_cases h1:kP 0 (zF s.name o.syms) < kP 0 (zF t.name o.syms)
  ·simp only [jr,e1,e2,h',kz,rk,KN,h1]
  ·have h2:kP 0 (zF t.name o.syms) < kP 0 (zF s.name o.syms):=by omega
   simp only [jr,e1,e2,h',kz,rk,KN,h1,h2];rfl
noncomputable def fd:List T->List T->Option (T × T)
 | a::l,b::r=>if dq a b=true then fd l r else some (a,b)
 | _,_=>none
theorem jeC:∀ {l r:List T} {a b:T},fd l r=some (a,b)->a∈l/\b∈r
 | [],_,_,_,h=>by simp [fd] at h
 | _::_,[],_,_,h=>by simp [fd] at h
 | x::l,y::r,a,b,h=>by
  simp only [fd] at h;split at h
  ·have:=jeC h;exact ⟨by simp [this.1],by simp [this.2]⟩
  ·cases h;exact ⟨by simp,by simp⟩
theorem jlE (s t:T) (hw:qB s) (hw':qB t) (hlen:s.args.length=t.args.length) :
  (fd s.args t.args=none/\G 57 [tm s,tm t]=some (vi (-1),[]))\/ ∃(k:Nat) (h1:k < s.args.length) (h2:k < t.args.length),fd s.args t.args=some (s.args[k],t.args[k])/\G 57 [tm s,tm t]=some (vi k,[]):=by
 obtain ⟨w1,w2,w3⟩:=(j5 s).1 hw;have w3:=(jC _).1 w3;obtain ⟨v1,v2,v3⟩:=(j5 t).1 hw';have v3:=(jC _).1 v3;have key:=upto (P:=λi=>(fd (s.args.drop i) (t.args.drop i)=none/\jfA (vi i) (sv s.name) (zl s.args) (sv t.name) (zl t.args)=some (vi (-1),[]))\/ ∃(k:Nat) (h1:k < s.args.length) (h2:k < t.args.length),fd (s.args.drop i) (t.args.drop i)=some (s.args[k],t.args[k])/\jfA (vi i) (sv s.name) (zl s.args) (sv t.name) (zl t.args)=some (vi k,[])) (n:=s.args.length) ?_ ?_ 0 (zZ _)
 ·simp only [ya,kV] at key;rw [g57];rcases key with ⟨h1,h2⟩|⟨k,h1,h2,h3,h4⟩
  ·exact Or.inl ⟨h1,by simp only [jr,h2]⟩
  ·exact Or.inr ⟨k,h1,h2,h3,by simp only [jr,h4]⟩
 ·left;rw [joU,zw];refine ⟨by simp [fd],?_⟩;simp only [jr]
 ·intro i hi ih;have hlt:(i:Int) < ((s.args.length:Nat):Int):=by omega
  have hi2:i < t.args.length:=by omega
  have h5:=jB hi w2;have e1:=jj9 s.args[i] (w3 _ (zf _)) t.args[i] (v3 _ (zf _));rw [joU,jA hi,jA hi2,fd];cases hp:dq s.args[i] t.args[i]<;>rw [hp] at e1
  ·refine Or.inr ⟨i,hi,hi2,by simp,?_⟩;simp only [jr,hlt,jb hi,jb hi2,jg,e1]
  ·simp only [jr,hlt,jb hi,jb hi2,jg,e1,h5];exact ih
def zT:A:= .agg [sv [],.sl 2 []]
noncomputable def fdR (s t:T):A:=match fd s.args t.args with|some (a,b)=> .tup [tm a,tm b,vb true]|none=> .tup [zT,zT,vb false]
theorem Y8 (s t:T) (hw:qB s) (hw':qB t) (hn:s.name=t.name) (hlen:s.args.length=t.args.length):G 96 [tm s,tm t]=some (fdR s t,[]):=by
 obtain ⟨w1,w2,w3⟩:=(j5 s).1 hw;have w3:=(jC _).1 w3;obtain ⟨v1,v2,v3⟩:=(j5 t).1 hw';have v3:=(jC _).1 v3;have key:=upto (P:=λi=>jiQ (zl s.args) (vi (s.args.length:Nat)) (vi i) (sv t.name) (zl t.args) (sv []) (sv []) [] []=some ((match fd (s.args.drop i) (t.args.drop i) with|some (a,b)=> .tup [tm a,tm b,vb true]|none=> .tup [zT,zT,vb false]),[])) (n:=s.args.length) ?_ ?_ 0 (zZ _)
 ·simp only [ya,kV] at key;rw [g96,fdR];simp only [hlen] at key;simp only [jr,hn,hlen,key]
 ·rw [jo4,zw];simp only [jr,fd,zT]
 ·intro i hi ih;have hlt:(i:Int) < ((s.args.length:Nat):Int):=by omega
  have hi2:i < t.args.length:=by omega
  have h5:=jB hi w2;have e1:=Ye s.args[i] (w3 _ (zf _)) t.args[i] (v3 _ (zf _));rw [jo4,jA hi,jA hi2,fd];cases hp:dq s.args[i] t.args[i]<;>rw [hp] at e1
  ·simp only [jr,hlt,jb hi,jb hi2,jg,e1]
  ·simp only [jr,hlt,jb hi,jb hi2,jg,e1,h5,ih]
theorem Y9 (s t:T) (h:¬(s.name=t.name/\s.args.length=t.args.length)):G 96 [tm s,tm t]=some (.tup [zT,zT,vb false],[]):=by
 rw [g96];by_cases hn:s.name=t.name
 ·have hlen':¬((s.args.length:Nat):Int)=((t.args.length:Nat):Int):=λe=>h ⟨hn,by omega⟩;simp only [jr,hn,hlen',zT]
 ·simp only [jr,hn,zT]
noncomputable def jke (o:Ord'):Nat->T->T->Bool
 | 0,_,_=>false
 | n+1,s,t=>if kS s.name then false else if (s.args.any λa=>dq a t || jke o n a t) then true else if kS t.name then false
   else if (t.args.any λb=> !jke o n s b) then false else if 0 < kz o s t then true else if kz o s t < 0 then false
   else match fd s.args t.args with|some (a,b)=>jke o n a b|none=>false
theorem jp6 {o:Ord'} {s t:T} (h1:o.syms.contains s.name=true) (h2:o.syms.contains t.name=true) (h:rk o s=rk o t):s.name=t.name:=by
 obtain ⟨k,hk,_⟩:=jbJ h1;obtain ⟨j,hj,_⟩:=jbJ h2;have a1:=(jbb hk).2;have a2:=(jbb hj).2;simp only [rk,hk,hj,kP,J3] at h;have:k=j:=by omega
 subst this;rw [a1] at a2;exact QE a2
theorem jh9 (o:Ord') (s t:T):kz o t s = - kz o s t:=by
 unfold kz;by_cases h:rk o s=rk o t
 ·rw [jq h,jq h.symm];unfold KN;split<;>split<;>(try split)<;>omega
 ·rw [jp h,jp (Ne.symm h)];unfold KN;split<;>split<;>(try split)<;>omega
def Yc (e g l:Bool):Int:=if e then 1 else if g then 2 else if l then 3 else 0
theorem jvn (e g l:Bool):G 130 [vb e,vb g,vb l]=some (vi (Yc e g l),[]):=by
 rw [jyk];cases e<;>cases g<;>cases l<;>simp only [jr,Yc]
theorem jhT {f g:FuncId} {caps caps':List A} (hf:K.pureF f=true) (hg:K.pureF g=true) (e gr le:Bool) (h1:G f caps=some (vb gr,[])) (h2:G g caps'=some (vb le,[])) :
  G 64 [vb e,.fn f caps,.fn g caps']=some (vi (Yc e gr le),[]):=by
 rw [g64];cases e<;>cases gr<;>cases le<;>simp only [jr,Ko hf,Ko hg,Jb,h1,h2,Yc]
noncomputable def jpz (o:Ord') (s t:T):Int:=Yc (dq s t) (jke o (nodes s+nodes t) s t) (jke o (nodes s+nodes t) t s)
noncomputable def jpC (o:Ord') (s t:T):A:=if kL o && (jlI o s && jlI o t) then .tup [vi (jpz o s t),vb true] else .tup [vi 0,vb false]
theorem jgl {left:Int} {n:Nat} (h0:0<=left) (h1:left<=1048576) (h:¬kG left (n:Int) < 0):0<=kG left (n:Int)/\kG left (n:Int)<=1048576/\n<=1048576:=by
 unfold kG at h ⊢;split at h
 ·rename_i hc;rw [jq hc];omega
 ·exact absurd jjr h
mutual
def Ja:T->List (List UInt8)
 | .mk n us=>if kS n then [n] else zI us
def zI:List T->List (List UInt8)
 | []=>[]
 | t::ts=>Ja t++zI ts
end
theorem QC (t:T):Ja t=if kS t.name then [t.name] else zI t.args:=by cases t;rfl
theorem ZY {n:Nat} (h:n<=4000000):Ji n 16=true:=by
 unfold Ji;simp;omega
def jej (l:List (List UInt8)) (vs:List (List UInt8)) (k:Nat) (r:List (List UInt8)):Prop:=(∀n,n∈r↔n∈l\/n∈vs)/\r.length<=l.length+k
theorem jc3 (ts:List T) (hl:ts.length<=9223372036854775807) (hn:jE ts<=1048577) (ih:∀t∈ts,∀l:List (List UInt8),l.length+nodes t<=2100000-> ∃r,QJ (sv t.name) (zl t.args) (l.map cs)=some (.top,[strs r])/\jej l (Ja t) (nodes t) r) :
  ∀i,i<=ts.length-> ∀l:List (List UInt8),l.length+jE (ts.drop i)<=2100000-> ∃r,jbx (zl ts) (vi (ts.length:Nat)) (vi i) (l.map cs)=some (.top,[strs r])/\jej l (zI (ts.drop i)) (jE (ts.drop i)) r:=by
 refine upto ?_ ?_
 ·intro l hb;rw [jgh,zw];refine ⟨l,?_,by simp [zI],by omega⟩;simp only [jr]
 ·intro i hi ih' l hb;have hlt:(i:Int) < ((ts.length:Nat):Int):=by omega
  have h5:=jB hi hl;rw [jA hi] at hb ⊢;simp only [jE,zI] at hb ⊢;obtain ⟨r1,e1,c1,c2⟩:=ih ts[i] (zf _) l (by omega);obtain ⟨r2,e2,d1,d2⟩:=ih' r1 (by omega);rw [jgh];refine ⟨r2,?_,?_,by omega⟩
  ·simp only [jr,hlt,jb hi,jg,e1,h5,e2]
  ·intro n;rw [d1,c1,kH];exact jiv
theorem jhr:∀t:T,qB t->KW t=true->nodes t<=1048577-> ∀l:List (List UInt8),l.length+nodes t<=2100000-> ∃r,QJ (sv t.name) (zl t.args) (l.map cs)=some (.top,[strs r])/\jej l (Ja t) (nodes t) r:=by
 refine T.ind λt ih hw hk hn l hb=> ?_;obtain ⟨w1,w2,w3⟩:=(j5 t).1 hw;have w3:=(jC _).1 w3;have hks:=yV hk;have e1:=Zq t hk;rw [jpv,QC];have hpos:=qp t;rw [jS] at hn hb ⊢;cases hv:kS t.name<;>rw [hv] at e1
 ·
  have ih':∀u∈t.args,∀l:List (List UInt8),l.length+nodes u<=2100000-> ∃r,QJ (sv u.name) (zl u.args) (l.map cs)=some (.top,[strs r])/\jej l (Ja u) (nodes u) r:=λu hu=>ih u hu (w3 u hu) (hks u hu) (by have:=yj hu;omega)
  have loop:=jc3 t.args w2 (by omega) ih';have start:∃r,jbw (zl t.args) (vi (t.args.length:Nat)) (vi 0) (l.map cs)=some (.top,[strs r])/\jej l (zI t.args) (jE t.args) r:=by
   rw [jlX];by_cases h0:t.args.length=0
   ·have ha:t.args = []:=jm2.1 h0;rw [ha];refine ⟨l,?_,by simp [zI],by simp [jE]⟩;simp only [jr];rfl
   ·have hi:0 < t.args.length:=by omega
    have hlt:(0:Int) < ((t.args.length:Nat):Int):=by omega
    have hix:jw 2 (zl t.args) (vi 0)=some (.elt (jm t.args[0]) 0):=jb (i:=0) hi;have h5:jD .add false (vi 0) (vi 1)=some (vi ((1:Nat):Int)):=by rw [Zu,qK (by decide) (by decide)];rfl
    have hd:t.args=t.args[0]::t.args.drop 1:=by have:=jA hi;simpa using this
    have hns:jE t.args=nodes t.args[0]+jE (t.args.drop 1):=by conv=>lhs;rw [hd,jE]
    have hvs:zI t.args=Ja t.args[0]++zI (t.args.drop 1):=by conv=>lhs;rw [hd,zI]
    obtain ⟨r1,e1,c1,c2⟩:=ih' t.args[0] (zf _) l (by omega);obtain ⟨r2,e2,d1,d2⟩:=loop 1 (by omega) r1 (by omega);refine ⟨r2,?_,?_,by omega⟩
    ·simp only [jr,hlt,hix,jg,e1,h5,e2]
    ·intro n;rw [d1,c1,hvs,kH];exact jiv
  obtain ⟨r,e2,d1,d2⟩:=start;refine ⟨r,?_,by simpa using d1,by omega⟩;cases h0:decide (((t.args.length:Nat):Int)=0)
  ·simp only [jr,h0,e2]
  ·simp only [jr,h0,e1,e2]
 ·have ha:t.args = []:=by
   rw [YB,hv] at hk;simpa using hk
  have h0:decide (((t.args.length:Nat):Int)=0)=true:=by rw [ha];rfl
  have e3:=qF l t.name (by omega);cases hc:l.contains t.name<;>rw [hc] at e3
  ·have hf:Ji (l.length+1) 16=true:=ZY (by omega);refine ⟨l++[t.name],?_,by simp,by simp⟩;have happ:Kb (l.map cs) [[sv t.name]]=(l++[t.name]).map cs:=by simp [Kb]
   simp only [jr,h0,e1,e3,hf,happ]
  ·refine ⟨l,?_,λn=>⟨λh=>Or.inl h,λh=>by
    rcases h with h|h
    ·exact h
    ·simp at h;subst h;simpa using hc⟩,by omega⟩
   simp only [jr,h0,e1,e3]
theorem jfj (t:T) (hw:qB t) (hk:KW t=true) (hn:nodes t<=1048577):∃r,G 92 [tm t]=some (strs r,[])/\(∀n,n∈r↔n∈Ja t)/\r.length<=9223372036854775807:=by
 obtain ⟨r,e1,c1,c2⟩:=jhr t hw hk hn [] (by simp;omega)
 have e2:jhg (r.map cs)=some (.top,[strs (zP r)]):=by
  rw [jpw];simp only [jgW,jcD];rw [jq (by simp at c2;omega)]
 refine ⟨zP r,?_,λn=> ?_,by simp [zP];simp at c2;omega⟩
 ·rw [g92];simp only [jfk] at e1;simp only [jr,e1,e2]
 ·unfold zP;rw [List.mem_mergeSort,c1];simp
mutual
def cnt (n:List UInt8):T->Nat
 | .mk m us=>(if m=n then 1 else 0)+JR n us
def JR (n:List UInt8):List T->Nat
 | []=>0
 | t::ts=>cnt n t+JR n ts
end
theorem jeA (n:List UInt8) (t:T):cnt n t=(if t.name=n then 1 else 0)+JR n t.args:=by cases t;rfl
theorem jpA (n:List UInt8):∀t:T,cnt n t<=nodes t:=by
 refine T.ind λt ih=> ?_;have:∀ts:List T,(∀u∈ts,cnt n u<=nodes u)->JR n ts<=jE ts:=by
  intro ts;induction ts with
  | nil=>intro _;simp [JR]
  | cons u us ih=>
   intro h;have h1:=h u (by simp);have h2:=ih λv hv=>h v (by simp [hv]);simp only [JR,jE];omega
 have h:=this t.args ih;rw [jeA,jS];split<;>omega
theorem jiY (n:List UInt8) (ts:List T):JR n ts<=jE ts:=by
 induction ts with
 | nil=>simp [JR]
 | cons u us ih=>have:=jpA n u;simp only [JR,jE];omega
theorem jbH (n:List UInt8) (ts:List T) (hl:ts.length<=9223372036854775807) (hn:jE ts<=1048577) (ih:∀t∈ts,G 93 [tm t,sv n]=some (vi (cnt n t:Nat),[])) :
  ∀i,i<=ts.length-> ∀a:Nat,a+JR n (ts.drop i)<=1048579->jfE (sv n) (vi a) (zl ts) (vi (ts.length:Nat)) (vi i)=some (vi ((a+JR n (ts.drop i):Nat):Int),[]):=by
 refine upto ?_ ?_
 ·intro a ha;rw [jo2,zw];simp only [jr,JR,zJ]
 ·intro i hi ih' a ha;have hlt:(i:Int) < ((ts.length:Nat):Int):=by omega
  have h5:=jB hi hl;have e1:=ih ts[i] (zf _);rw [jA hi] at ha ⊢;simp only [JR] at ha ⊢;have hk:ck ((a:Int)+((cnt n ts[i]:Nat):Int))=some (vi ((a+cnt n ts[i]:Nat):Int)):=by rw [qK (by omega) (by omega)];rfl
  have ih':=ih' (a+cnt n ts[i]) (by omega);rw [jo2];simp only [jr,hlt,jb hi,jg,e1,hk,h5,ih',K9]
theorem Y4 (n:List UInt8):∀t:T,qB t->nodes t<=1048577->G 93 [tm t,sv n]=some (vi (cnt n t:Nat),[]):=by
 refine T.ind λt ih hw hn=> ?_;obtain ⟨w1,w2,w3⟩:=(j5 t).1 hw;have w3:=(jC _).1 w3;rw [jS] at hn;have hc:=jiY n t.args;have key:=λa h=>jbH n t.args w2 (by omega) (λu hu=>ih u hu (w3 u hu) (by have:=yj hu;omega)) 0 (zZ _) a h;simp only [ya,kV] at key;rw [g93,jeA];by_cases h:t.name=n
 ·have key:=key 1 (by omega);simp only [jfp] at key;simp only [jr,h,key]
 ·have key:=key 0 (by omega);simp only [ya] at key;simp only [jr,h,key]
theorem jeM (m n:List UInt8) (ts:List T) (hl:ts.length<=9223372036854775807) (hn:jE ts<=1048577) (ih:∀t∈ts,G 82 [tm t,sv n]=some (vi (cnt n t:Nat),[])) :
  ∀i,i<=ts.length-> ∀a:Nat,a+JR n (ts.drop i)<=1048579->jfD (sv n) (vi a) (vi i) (sv m) (zl ts)=some (vi ((a+JR n (ts.drop i):Nat):Int),[]):=by
 refine upto ?_ ?_
 ·intro a ha;rw [joY,zw];simp only [jr,JR,zJ]
 ·intro i hi ih' a ha;have hlt:(i:Int) < ((ts.length:Nat):Int):=by omega
  have h5:=jB hi hl;have e1:=ih ts[i] (zf _);rw [jA hi] at ha ⊢;simp only [JR] at ha ⊢;have hk:ck ((a:Int)+((cnt n ts[i]:Nat):Int))=some (vi ((a+cnt n ts[i]:Nat):Int)):=by rw [qK (by omega) (by omega)];rfl
  have ih':=ih' (a+cnt n ts[i]) (by omega);rw [joY];simp only [jr,hlt,jb hi,jg,e1,hk,h5,ih',K9]
theorem jb1 (n:List UInt8):∀t:T,qB t->nodes t<=1048577->G 82 [tm t,sv n]=some (vi (cnt n t:Nat),[]):=by
 refine T.ind λt ih hw hn=> ?_;obtain ⟨w1,w2,w3⟩:=(j5 t).1 hw;have w3:=(jC _).1 w3;rw [jS] at hn;have hc:=jiY n t.args;have key:=λa h=>jeM t.name n t.args w2 (by omega) (λu hu=>ih u hu (w3 u hu) (by have:=yj hu;omega)) 0 (zZ _) a h;simp only [ya,kV] at key;rw [g82,jeA];by_cases h:t.name=n
 ·have key:=key 1 (by omega);simp only [jfp] at key;rw [h] at key;simp only [jr,h,key]
 ·have key:=key 0 (by omega);simp only [ya] at key;simp only [jr,h,key]
theorem jlZ (l:List (List UInt8)) (s:List UInt8) (hl:l.length<=2100000):∃r,G 126 [strs l,sv s]=some (strs r,[])/\jej l [s] 1 r:=by
 have key:=upto (P:=λi=>∃r,jer (strs l) (sv s) (vi i)=some (strs r,[])/\jej l [s] 1 r) (n:=l.length) ?_ ?_ 0 (zZ _)
 ·simp only [ya] at key;rw [jsd];exact key
 ·have hx:¬((l.length:Nat):Int) < ((l.length:Nat):Int):=Int.lt_irrefl _;have s1:zU 1 (strs l) none (some (vi (l.length:Nat)))=some (strs l):=by rw [JY (by simp),jdi (by simp)]
  have s2:zU 1 (strs l) (some (vi (l.length:Nat))) none=some (.sl 1 []):=by rw [jaG (by simp),jei (by simp)]
  have f1:Ji l.length 16=true:=ZY (by omega);have f2:Ji (l.length+1) 16=true:=ZY (by omega);have happ:Kb (Kb (l.map cs) [[sv s]]) []=(l++[s]).map cs:=by simp [Kb]
  have hlen:(Kb (l.map cs) [[sv s]]).length=l.length+1:=by simp [Kb]
  refine ⟨l++[s],?_,by intro n;simp,by simp⟩
  rw [jlY];simp only [jr,hx,s1,s2,f1,f2,hlen,happ,zJ]
 ·intro i hi ih;have hlt:(i:Int) < ((l.length:Nat):Int):=by omega
  have h5:=jB hi (by omega);rw [jlY];cases h1:sLt l[i] s
  ·by_cases h2:l[i]=s
   ·refine ⟨l,?_,λn=>⟨λh=>Or.inl h,λh=>by
     rcases h with h|h
     ·exact h
     ·simp at h;rw [h,<-h2];exact zf _⟩,by omega⟩
    rw [h2] at h1;simp only [jr,hlt,jb hi,h2,h1]
   ·have s1:zU 1 (strs l) none (some (vi i))=some (strs (l.take i)):=by rw [JY (by simp;omega),<-jm3]
    have s2:zU 1 (strs l) (some (vi i)) none=some (strs (l.drop i)):=by rw [jaG (by simp;omega),<-jrk]
    have ht:(l.take i).length=i:=by rw [jfv];omega
    have f1:Ji i 16=true:=ZY (by omega);have f2:Ji (i+1) 16=true:=ZY (by omega);have f3:Ji (i+1+(l.drop i).length) 16=true:=ZY (by rw [jph];omega);have happ:Kb (Kb ((l.take i).map cs) [[sv s]]) ((l.drop i).map cs)=(l.take i++[s]++l.drop i).map cs:=by simp [Kb]
    have hlen:(Kb ((l.take i).map cs) [[sv s]]).length=i+1:=by simp [Kb];omega
    refine ⟨l.take i++[s]++l.drop i,?_,λn=> ?_,by simp;omega⟩
    ·simp only [jr,hlt,jb hi,h1,h2,s1,s2,ht,f1,f2,f3,hlen,happ]
    ·have hm:n∈l↔n∈l.take i\/n∈l.drop i:=by rw [<-kH,jaR]
     simp only [kH,jR,hm];exact ⟨λh=>by rcases h with (h|h)|h<;>simp [h],λh=>by rcases h with (h|h)|h<;>simp [h]⟩
  ·obtain ⟨r,e,c⟩:=ih;refine ⟨r,?_,c⟩;simp only [jr,hlt,jb hi,h1,h5,e]
theorem jj8:∀t:T,qB t-> ∀l:List (List UInt8),l.length+nodes t<=2100000-> ∃r,G 112 [strs l,tm t]=some (strs r,[])/\jej l (Ja t) (nodes t) r:=by
 refine T.ind λt ih hw l hb=> ?_;obtain ⟨w1,w2,w3⟩:=(j5 t).1 hw;have w3:=(jC _).1 w3;have e1:=Kt t.name w1;rw [jr8,QC];rw [jS] at hb ⊢;cases hv:kS t.name<;>rw [hv] at e1
 ·have key:=upto (P:=λi=>∀l:List (List UInt8),l.length+jE (t.args.drop i)<=2100000-> ∃r,jeq (strs l) (vi i) (sv t.name) (zl t.args)=some (strs r,[])/\jej l (zI (t.args.drop i)) (jE (t.args.drop i)) r) (n:=t.args.length) ?_ ?_ 0 (zZ _)
  ·simp only [ya,kV] at key;obtain ⟨r,e,c1,c2⟩:=key l (by omega);refine ⟨r,?_,by simpa using c1,by omega⟩;simp only [jr,e1,e]
  ·intro l hb;rw [jlW,zw];refine ⟨l,?_,by simp [zI],by omega⟩;simp only [jr]
  ·intro i hi ih' l hb;have hlt:(i:Int) < ((t.args.length:Nat):Int):=by omega
   have h5:=jB hi w2;rw [jA hi] at hb ⊢;simp only [jE,zI] at hb ⊢;obtain ⟨r1,a1,c1,c2⟩:=ih t.args[i] (zf _) (w3 _ (zf _)) l (by omega);obtain ⟨r2,a2,d1,d2⟩:=ih' r1 (by omega);rw [jlW];refine ⟨r2,?_,?_,by omega⟩
   ·simp only [jr,hlt,jb hi,jg,a1,h5,a2]
   ·intro n;rw [d1,c1,kH];exact jiv
 ·obtain ⟨r,e,c1,c2⟩:=jlZ l t.name (by omega);refine ⟨r,?_,by simpa using c1,by omega⟩;simp only [jr,e1,e]
theorem jka (t:T) (hw:qB t) (hn:nodes t<=1048577):∃r,G 81 [tm t]=some (strs r,[])/\(∀n,n∈r↔n∈Ja t)/\r.length<=9223372036854775807:=by
 obtain ⟨r,e,c1,c2⟩:=jj8 t hw [] (by simp;omega)
 have e:G 112 [.sl 1 [],tm t]=some (strs r,[]):=e;refine ⟨r,?_,λn=>by rw [c1];simp,by simp at c2;omega⟩;rw [g81];simp only [jr,e]
def bal (s t:T):Bool:=(Ja t).all λn=>decide (cnt n t<=cnt n s)
theorem jli {r:List (List UInt8)} {s t:T} (h:∀n,n∈r↔n∈Ja t):(r.all λn=>decide (cnt n t<=cnt n s))=bal s t:=by
 unfold bal;rw [Bool.eq_iff_iff,qg,qg];exact ⟨λa n hn=>a n ((h n).2 hn),λa n hn=>a n ((h n).1 hn)⟩
theorem jfL (s t:T) (hw:qB s) (hw':qB t) (hs:nodes s<=1048577) (ht:nodes t<=1048577):G 53 [tm s,tm t]=some (vb (bal s t),[]):=by
 obtain ⟨r,e,c1,c2⟩:=jka t hw' ht;have key:=upto (P:=λi=>jiJ (strs r) (vi i) (sv s.name) (zl s.args) (sv t.name) (zl t.args)=some (vb ((r.drop i).all λn=>decide (cnt n t<=cnt n s)),[])) (n:=r.length) ?_ ?_ 0 (zZ _)
 ·simp only [ya,kV] at key;rw [jli c1] at key;rw [g53];simp only [jr,e,key]
 ·rw [joR,zw];simp only [jr]
 ·intro i hi ih;have hlt:(i:Int) < ((r.length:Nat):Int):=by omega
  have h5:=jB hi c2;have e1:=jb1 r[i] s hw hs;have e2:=jb1 r[i] t hw' ht;rw [joR,jA hi,zk];by_cases h:cnt r[i] t<=cnt r[i] s
  ·have h':¬((cnt r[i] s:Nat):Int) < ((cnt r[i] t:Nat):Int):=by omega
   simp only [jr,hlt,jb hi,e1,e2,h',h,h5,ih,jQ]
  ·have h':((cnt r[i] s:Nat):Int) < ((cnt r[i] t:Nat):Int):=by omega
   simp only [jr,hlt,jb hi,e1,e2,h',h,jK]
noncomputable def qa (o:Ord'):Nat->T->T->Bool
 | 0,_,_=>false
 | n+1,s,t=>if bal s t then (if wt o s=wt o t then (if kS s.name || kS t.name then false else if kz o s t=0 then (match fd s.args t.args with|some (a,b)=>qa o n a b|none=>false) else decide (0 < kz o s t)) else decide (wt o t < wt o s)) else false
theorem jgb {s t a b:T} {n:Nat} (ha:a∈s.args) (hb:b∈t.args) (h:nodes s+nodes t<=n+1):nodes a+nodes b<=n:=by
 have h1:=yj ha;have h2:=yj hb;rw [jS s,jS t] at h;omega
theorem jdQ {o:Ord'} {s t:T} (h:kz o s t=0):rk o s=rk o t/\s.args.length=t.args.length:=by
 unfold kz KN at h;split at h
 ·rename_i h1;refine ⟨h1,?_⟩;split at h
  ·cases h
  ·split at h
   ·cases h
   ·omega
 ·split at h
  ·cases h
  ·split at h
   ·cases h
   ·omega
theorem jb4 {o:Ord'} (hv:kL o=true) (ho:o.syms.length<=9223372036854775807):∀(n:Nat) (s t:T),nodes s+nodes t<=n->qB s->qB t->tsz s<=1048576->tsz t<=1048576->y9 o.syms s=true->y9 o.syms t=true->G 26 [od o,tm s,tm t]=some (vb (qa o n s t),[])
 | 0,s,t,h,_,_,_,_,_,_=>by have:=qp s;omega
 | n+1,s,t,h,hw,hw',hs,ht,hc,hc'=>by
  obtain ⟨w1,w2,w3⟩:=(j5 s).1 hw;have w3:=(jC _).1 w3;obtain ⟨v1,v2,v3⟩:=(j5 t).1 hw';have v3:=(jC _).1 v3;have hns:=yB s;have hnt:=yB t;have e1:=jfL s t hw hw' (by omega) (by omega);have e2:=jaA hv ho s hw hs hc;have e3:=jaA hv ho t hw' ht hc';have e4:=Kt s.name w1;have e5:=Kt t.name v1;have e6:=jn9 o s t ho;have cs1:∀a∈s.args,y9 o.syms a=true:=λa ha=>by rw [yR,js] at hc;exact yK hc.2 ha
  have cs2:∀a∈t.args,y9 o.syms a=true:=λa ha=>by rw [yR,js] at hc';exact yK hc'.2 ha
  rw [g26,qa];cases hb:bal s t<;>rw [hb] at e1
  ·simp only [jr,e1]
  by_cases hwt:wt o s=wt o t;rotate_left
  ·simp only [jr,e1,e2,e3,hwt]
  cases hv1:kS s.name<;>rw [hv1] at e4
  rotate_left
  ·simp only [jr,e1,e2,e3,hwt,e4,zB]
  cases hv2:kS t.name<;>rw [hv2] at e5
  rotate_left
  ·simp only [jr,e1,e2,e3,hwt,e4,e5,jZ]
  by_cases hr:kz o s t=0;rotate_left
  ·simp only [jr,e1,e2,e3,hwt,e4,e5,e6,hr,jZ]
  obtain ⟨_,hlen⟩:=jdQ hr;rcases jlE s t hw hw' hlen with ⟨f1,f2⟩|⟨k,k1,k2,f1,f2⟩
  ·have:¬(0:Int)<= -1:=by decide
   simp only [jr,e1,e2,e3,hwt,e4,e5,e6,hr,jZ,f1,f2,this]
  ·have m1:=zf k1;have m2:=zf k2;have e7:=jb4 hv ho n s.args[k] t.args[k] (jgb m1 m2 h) (w3 _ m1) (v3 _ m2) (by have:=zW m1;rw [zH] at hs;omega) (by have:=zW m2;rw [zH] at ht;omega) (cs1 _ m1) (cs2 _ m2);have:(0:Int)<=(k:Int):=by omega
   simp only [jr,e1,e2,e3,hwt,e4,e5,e6,hr,jZ,f1,f2,this,jb k1,jb k2,jg,e7]
theorem jhF {o:Ord'} (hv:kL o=true) (ho:o.syms.length<=9223372036854775807):∀(n:Nat) (s t:T),nodes s+nodes t<=n->qB s->qB t->tsz s<=1048576->tsz t<=1048576->KW s=true->KW t=true->y9 o.syms s=true->y9 o.syms t=true->G 67 [od o,tm s,tm t]=some (vb (qa o n s t),[])
 | 0,s,t,h,_,_,_,_,_,_,_,_=>by have:=qp s;omega
 | n+1,s,t,h,hw,hw',hs,ht,hk,hk',hc,hc'=>by
  obtain ⟨w1,w2,w3⟩:=(j5 s).1 hw;have w3:=(jC _).1 w3;obtain ⟨v1,v2,v3⟩:=(j5 t).1 hw';have v3:=(jC _).1 v3;have hns:=yB s;have hnt:=yB t;have ks:=yV hk;have ks':=yV hk';have e2:=jea hv ho s hw hs hk hc;have e3:=jea hv ho t hw' ht hk' hc';have e4:=Zq s hk;have e5:=Zq t hk';have e6:=jgF o t s ho;rw [jh9] at e6;have cs1:∀a∈s.args,y9 o.syms a=true:=λa ha=>by rw [yR,js] at hc;exact yK hc.2 ha
  have cs2:∀a∈t.args,y9 o.syms a=true:=λa ha=>by rw [yR,js] at hc';exact yK hc'.2 ha
  obtain ⟨r,er,c1,c2⟩:=jfj t hw' hk' (by omega);have tail:jfC (strs r) (vi (r.length:Nat)) (vi (r.length:Nat)) (strs o.syms) (ints o.ws) (vi o.var) (sv s.name) (zl s.args) (sv t.name) (zl t.args)=some (vb (if wt o s=wt o t then (if kS s.name || kS t.name then false else if kz o s t=0 then (match fd s.args t.args with|some (a,b)=>qa o n a b|none=>false) else decide (0 < kz o s t)) else decide (wt o t < wt o s)),[]):=by
   rw [joV];by_cases hwt:wt o s=wt o t;rotate_left
   ·simp only [jr,e2,e3,hwt]
   have hnlt:¬wt o t < wt o s:=by omega
   cases hv1:kS s.name<;>rw [hv1] at e4
   rotate_left
   ·simp only [jr,e2,e3,hwt,e4,zB]
   cases hv2:kS t.name<;>rw [hv2] at e5
   rotate_left
   ·simp only [jr,e2,e3,hwt,e4,e5,jZ]
   by_cases hr:kz o s t=0
   ·have hr':¬ -kz o s t < 0:=by omega
    obtain ⟨hrk,hlen⟩:=jdQ hr;have hcn:o.syms.contains s.name=true:=by rw [yR,hv1,jZ,js] at hc;exact hc.1
    have hcn':o.syms.contains t.name=true:=by rw [yR,hv2,jZ,js] at hc';exact hc'.1
    have e7:=Y8 s t hw hw' (jp6 hcn hcn' hrk) hlen;cases hf:fd s.args t.args with
    | none=>
     have:fdR s t = .tup [zT,zT,vb false]:=by unfold fdR;rw [hf]
     rw [this] at e7;simp only [hr] at e6;simp only [jr,e2,e3,hwt,e4,e5,e6,hr,hr',jZ,e7,zT,Int.neg_zero]
    | some p=>
     obtain ⟨a,b⟩:=p;have:fdR s t = .tup [tm a,tm b,vb true]:=by unfold fdR;rw [hf]
     rw [this] at e7;obtain ⟨ma,mb⟩:=jeC hf;have e8:=jhF hv ho n a b (jgb ma mb h) (w3 a ma) (v3 b mb) (by have:=zW ma;rw [zH] at hs;omega) (by have:=zW mb;rw [zH] at ht;omega) (ks a ma) (ks' b mb) (cs1 a ma) (cs2 b mb);simp only [hr] at e6;simp only [jr,e2,e3,hwt,e4,e5,e6,hr,hr',jZ,e7,e8,Int.neg_zero]
   ·by_cases hg:0 < kz o s t
    ·have hg': -kz o s t < 0:=by omega
     simp only [jr,e2,e3,hwt,e4,e5,e6,hr,hg,hg',jZ]
    ·have hg':¬ -kz o s t < 0:=by omega
     have hno:¬(s.name=t.name/\s.args.length=t.args.length):=by
      rintro ⟨q1,q2⟩;apply hr;have:rk o s=rk o t:=by unfold rk;rw [q1]
      unfold kz KN;rw [jq this,q2];simp
     have e7:=Y9 s t hno;simp only [jr,e2,e3,hwt,e4,e5,e6,hr,hg,hg',jZ,e7,zT]
  have key:=upto (P:=λi=>jfC (strs r) (vi (r.length:Nat)) (vi i) (strs o.syms) (ints o.ws) (vi o.var) (sv s.name) (zl s.args) (sv t.name) (zl t.args)=some (vb (if ((r.drop i).all λn=>decide (cnt n t<=cnt n s)) then (if wt o s=wt o t then (if kS s.name || kS t.name then false else if kz o s t=0 then (match fd s.args t.args with|some (a,b)=>qa o n a b|none=>false) else decide (0 < kz o s t)) else decide (wt o t < wt o s)) else false),[])) (n:=r.length) ?_ ?_ 0 (zZ _)
  ·simp only [ya,kV] at key;rw [jli c1] at key;rw [g67,qa];simp only [jr,er];exact key
  ·rw [tail,zw];rfl
  ·intro i hi ih;have hlt:(i:Int) < ((r.length:Nat):Int):=by omega
   have h5:=jB hi c2;have a1:=Y4 r[i] s hw (by omega);have a2:=Y4 r[i] t hw' (by omega);rw [joV,jA hi,zk];by_cases hcn:cnt r[i] t<=cnt r[i] s
   ·have h':¬((cnt r[i] s:Nat):Int) < ((cnt r[i] t:Nat):Int):=by omega
    simp only [jr,hlt,jb hi,a1,a2,h',hcn,h5,ih,jQ]
   ·have h':((cnt r[i] s:Nat):Int) < ((cnt r[i] t:Nat):Int):=by omega
    simp only [jr,hlt,jb hi,a1,a2,h',hcn,jK]
noncomputable def kW (o:Ord') (s t:T):Int:=Yc (dq s t) (qa o (nodes s+nodes t) s t) (qa o (nodes s+nodes t) t s)
noncomputable def jpB (o:Ord') (s t:T):A:=if kL o && (jlI o s && jlI o t) then .tup [vi (kW o s t),vb true] else .tup [vi 0,vb false]
theorem jsZ (o:Ord') (s t:T) (ho:owf o) (hw:qB s) (hs:tsz s<=1048576) (hw':qB t) (hs':tsz t<=1048576):G 119 [od o,tm s,tm t]=some (jpB o s t,[]):=by
 have e1:=jkb o ho;have e2:=jtK o s ho.1.2 hw hs;have e3:=jtK o t ho.1.2 hw' hs';have e4:=jj9 s hw t hw';have e7:=jvn (dq s t) (qa o (nodes s+nodes t) s t) (qa o (nodes s+nodes t) t s);rw [jyh,jpB];cases h:kL o<;>rw [h] at e1
 ·simp only [jr,e1,jK]
 ·cases h2:jlI o s<;>rw [h2] at e2
  ·simp only [jr,e1,e2,kM,jK]
  ·cases h3:jlI o t<;>rw [h3] at e3
   ·simp only [jr,e1,e2,e3,kM]
   ·have g2:=jtJ h2;have g3:=jtJ h3;have e5:=jb4 h ho.1.2 (nodes s+nodes t) s t (jV _) hw hw' hs hs' g2.2.1 g3.2.1;have e6:=jb4 h ho.1.2 (nodes s+nodes t) t s (by omega) hw' hw hs' hs g3.2.1 g2.2.1;simp only [jr,e1,e2,e3,e4,e5,e6,e7,kW]
theorem jaU {o:Ord'} (hv:kL o=true) (s t:T) (ho:owf o) (hw:qB s) (hs:tsz s<=1048576) (hw':qB t) (hs':tsz t<=1048576) (hk:KW s=true) (hk':KW t=true) (hc:y9 o.syms s=true) (hc':y9 o.syms t=true):G 34 [od o,tm s,tm t]=some (vi (kW o s t),[]):=by
 have e4:=Ye s hw t hw';have e5:=jhF hv ho.1.2 (nodes s+nodes t) s t (jV _) hw hw' hs hs' hk hk' hc hc';have e6:=jhF hv ho.1.2 (nodes s+nodes t) t s (by omega) hw' hw hs' hs hk' hk hc' hc;have c1:G 66 [.elt (jce o) 0,.elt [sv s.name,.sl 2 (s.args.map jm)] 0,.elt [sv t.name,.sl 2 (t.args.map jm)] 0]=some (vb (qa o (nodes s+nodes t) s t),[]):=by
  rw [g66];simp only [jr,jgC,jgD,e5]
 have c2:G 68 [.elt (jce o) 0,.elt [sv t.name,.sl 2 (t.args.map jm)] 0,.elt [sv s.name,.sl 2 (s.args.map jm)] 0]=some (vb (qa o (nodes s+nodes t) t s),[]):=by
  rw [g68];simp only [jr,jgC,jgD,e6]
 have e7:=jhT (f:=66) (g:=68) rfl rfl (dq s t) _ _ c1 c2;rw [g34];simp only [jr,e4,e7,kW]
def kT (t:T):T:=t.args.getD 0 (.mk [] [])
def ze (t:T):T:=t.args.getD 1 (.mk [] [])
def jc5 (t:T):Bool:=decide (t.args.length=2) && (JH t && (KW (kT t) && KW (ze t)))
theorem Jn {t:T} (hl:t.args.length=2):jw 2 (zl t.args) (vi 0)=some (.elt (jm (kT t)) 0)/\jw 2 (zl t.args) (vi 1)=some (.elt (jm (ze t)) 0)/\kT t∈t.args/\ze t∈t.args:=by
 have e0:kT t=t.args[0]:=by unfold kT;simp [jU,hl]
 have e1:ze t=t.args[1]:=by unfold ze;simp [jU,hl]
 rw [e0,e1];exact ⟨jb (i:=0) (by omega),jb (i:=1) (by omega),zf _,zf _⟩
theorem jhK (t:T) (hw:qB t) (hs:tsz t<=1048576) (he:t.name = [61]):G 51 [tm t]=some (vb (jc5 t),[]):=by
 obtain ⟨w1,w2,w3⟩:=(j5 t).1 hw;have w3:=(jC _).1 w3;have het:(t.name = [61])=True:=jm0 he;unfold jc5;rw [g51];by_cases hl:t.args.length=2;rotate_left
 ·have hl':¬((t.args.length:Nat):Int)=2:=by omega
  simp only [jr,het,hl',hl,jK]
 have hl':((t.args.length:Nat):Int)=2:=by omega
 rw [ZO hl,jQ];obtain ⟨i0,i1,ma,mb⟩:=Jn hl;have p1:=jj7 t hw hs;have p2:=jb2 _ (w3 _ ma);have p3:=jb2 _ (w3 _ mb);cases h1:JH t<;>rw [h1] at p1
 ·simp only [jr,het,hl',p1,jK,kM]
 ·cases h2:KW (kT t)<;>rw [h2] at p2
  ·simp only [jr,het,hl',p1,i0,jg,p2,jK,kM]
  ·simp only [jr,het,hl',p1,i0,i1,jg,p2,p3,jQ]
theorem Ka (t:T):G 30 [tm t]=some (vb (decide (t.name = [61])),[]):=by
 rw [g30];simp only [jr]
theorem jaY (t:T) (hw:qB t) (hs:tsz t<=1048576) (he:t.name = [61]):G 61 [tm t]=some (vb (jc5 t),[]):=by
 obtain ⟨w1,w2,w3⟩:=(j5 t).1 hw;have w3:=(jC _).1 w3;have q0:=Ka t;rw [ZO he] at q0;unfold jc5;rw [g61];by_cases hl:t.args.length=2;rotate_left
 ·have hl':¬((t.args.length:Nat):Int)=2:=by omega
  simp only [jr,q0,hl',hl,jK]
 have hl':((t.args.length:Nat):Int)=2:=by omega
 rw [ZO hl,jQ];obtain ⟨i0,i1,ma,mb⟩:=Jn hl;have p1:=jhB t hw hs;have p2:=jat _ (w3 _ ma);have p3:=jat _ (w3 _ mb);cases h1:JH t<;>rw [h1] at p1
 ·simp only [jr,q0,hl',p1,jK,kM]
 ·cases h2:KW (kT t)<;>rw [h2] at p2
  ·simp only [jr,q0,hl',p1,i0,jg,p2,jK,kM]
  ·simp only [jr,q0,hl',p1,i0,i1,jg,p2,p3,jQ]
def Zm (o:Ord') (t:T):Bool:=decide (t.name = [61]) && (jc5 t && (y9 o.syms (kT t) && y9 o.syms (ze t)))
theorem Qi (s:List UInt8):kU (sv s)=true:=rfl
theorem jlL (k:Nat) (xs:List (List A)):jf8 (.sl k xs)=true:=rfl
theorem jkQ (ts:List T) (hl:ts.length<=1048576) (ih:∀t∈ts,jnb (tm t)=some (.top,[sv t.name,.sl 66 (t.args.map jm)])):Zg (zl ts)=some (.top,[.sl 66 (ts.map jm)]):=by
 have key:=(upto (P:=λi=>ja2 (zl ts) (vi i) (part jm [sv [],.sl 2 []] ts i)=some (.top,[.sl 66 (ts.map jm)])) (n:=ts.length) ?_ ?_ 0 (zZ _))
 ·rw [jqE];have hm:=ZZ (b:=40) (n:=ts.length) (by omega) hl;simp only [ya,<-Z1] at key;simp only [jr,hm,key]
 ·rw [jjg,Qs];simp only [jr]
 ·intro i hi ih';have h1:=JZ (f:=jm) (z:=[sv [],.sl 2 []]) (jef hi);have h2:pIx (part jm [sv [],.sl 2 []] ts i).length (vi i)=some i:=YE (by omega);have h4:=Qu (f:=jm) (z:=[sv [],.sl 2 []]) hi;rw [kA] at h4;have h5:=jB hi (zK hl (by decide));have e1:=ih ts[i] (zf _);rw [jjg];simp only [jr,hi,Int.ofNat_lt,jb hi,jg,e1,Ze,Qi,h2,Qt hi,jey,h4,h5,ih']
theorem jmQ (t:T) (ht:Zg (zl t.args)=some (.top,[.sl 66 (t.args.map jm)])):jnb (tm t)=some (.top,[sv t.name,.sl 66 (t.args.map jm)]):=by
 rw [jrX];simp only [jr,ht]
theorem jon (t:T):tsz t<=1048576->Zg (zl t.args)=some (.top,[.sl 66 (t.args.map jm)]):=by
 refine T.ind (p:=λt=>tsz t<=1048576->Zg (zl t.args)=some (.top,[.sl 66 (t.args.map jm)])) ?_ t;intro t ih h;rw [zH] at h;exact jkQ t.args (by omega) λu hu=>jmQ u (ih u hu (by have:=zW hu;omega))
theorem jmP (t:T) (h:tsz t<=1048576):jc0 (sv t.name) (zl t.args)=some (.top,[sv t.name,.sl 66 (t.args.map jm)]):=by
 have e1:=jon t h;rw [jrW];simp only [jr,e1]
theorem jmk (n:Int):YC (.sl 1 [[vy n]])=some (sv [UInt8.ofNat n.toNat]):=rfl
theorem jhY (x:Int):jD .rem false (vi x) (vi 10)=some (vi (x.tmod 10)):=rfl
theorem jhX (x:Int):jD .quo false (vi x) (vi 10)=ck (x.tdiv 10):=rfl
theorem jnX (k:IntKind) (a:Int):jgB .u8 (.val (.int k a))=some (vy (IntKind.u8.wrap a)):=rfl
theorem jpT (n:Int):zL (vy n)=true:=rfl
theorem jdf:∀(k:Nat) (out:List UInt8),out.length+k<=1000000000-> ∃s,jiG (vi (k:Nat)) (sv out)=some (sv s,[]):=by
 intro k;induction k using Nat.strongRecOn with
 | ind k ih=>
  intro out hl;by_cases hk:(0:Int) < (k:Nat)
  ·have h1:((k:Nat):Int).tdiv 10=((k / 10:Nat):Int):=by rw [jqi (by omega)];rfl
   have h2:((k:Nat):Int).tmod 10=((k % 10:Nat):Int):=by rw [Int.tmod_eq_emod_of_nonneg (by omega)];rfl
   have c1:ck ((k / 10:Nat):Int)=some (vi ((k / 10:Nat):Int)):=qK (by omega) (by omega);have c2:ck (48+((k % 10:Nat):Int))=some (vi (48+((k % 10:Nat):Int))):=qK (by omega) (by omega);generalize hc:UInt8.ofNat (IntKind.u8.wrap (48+((k % 10:Nat):Int))).toNat=c;have e1:jD .add false (sv [c]) (sv out)=some (sv ([c]++out)):=by rw [jdI,jq (by simp;omega)]
   obtain ⟨s,hs⟩:=ih (k / 10) (by omega) ([c]++out) (by simp;omega)
   refine ⟨s,?_⟩;rw [joN];simp only [jr,hk,jhY,h2,c2,jnX,jpT,jmk,hc,e1,jhX,h1,c1,hs]
  ·have e1:jD .add false (sv [109]) (sv out)=some (sv ([109]++out)):=by rw [jdI,jq (by simp;omega)]
   refine ⟨[109]++out,?_⟩;rw [joN];simp only [jr,hk,e1]
theorem jaC (k:Nat) (h:k<=1000000000):∃s,G 47 [vi (k:Nat)]=some (sv s,[]):=by
 rw [g47];by_cases hk:((k:Nat):Int)<=0
 ·exact ⟨[109,48],by simp only [jr,hk]⟩
 ·obtain ⟨s,hs⟩:=jdf k [] (by simpa using h);exact ⟨s,by simp only [jr,hk,hs]⟩
mutual
def mkN:T->Nat
 | .mk _ us=>1+Ki us
def Ki:List T->Nat
 | []=>0
 | t::ts=>mkN t+Ki ts
end
theorem jhQ (t:T):mkN t=1+Ki t.args:=by cases t;simp [mkN,T.args]
mutual
theorem jnP:∀t:T,mkN t<=1+tsz t
 | .mk n us=>by
  have:=jeS us;simp only [mkN,tsz];omega
theorem jeS:∀ts:List T,Ki ts<=ts.length+ZI ts
 | []=>by simp [Ki]
 | t::ts=>by
  have h1:=jnP t;have h2:=jeS ts;simp only [Ki,ZI,qf];omega
end
theorem jeJ:∀(r:List T) (M:List (List A)) (k:Nat),k+Ki r<=100000000->M.length+r.length<=9223372036854775807->
  (∀t∈r,∀k:Nat,k+Ki t.args<=100000000-> ∃X,jbs (vi (k:Nat)) (t.args.map jm)=some (.top,[vi ((k+Ki t.args:Nat):Int),.sl 66 X]))->
  ∃X,ja3 (vi (k:Nat)) (vi (M.length:Nat)) (M++r.map jm)=some (.top,[vi ((k+Ki r:Nat):Int),.sl 66 X])
 | [],M,k,hk,hl,_=>by
  refine ⟨M,?_⟩;rw [jjh,jfk,qO];simp only [jr,Ki,zJ]
 | t::r,M,k,hk,hl,ht=>by
  simp only [Ki,jhQ,qf] at hk hl;have h1:((M.length:Nat):Int) < (((M++jm t::r.map jm).length:Nat):Int):=by simp;omega
  have h2:=jia M (r.map jm) (jm t);have h3:=je5 M (r.map jm) (jm t);obtain ⟨s,e0⟩:=jaC k (by omega);have h4:=je7 M (r.map jm) (jm t) [sv s,zl t.args];have h5:=jia M (r.map jm) [sv s,zl t.args];have h6:=je5 M (r.map jm) [sv s,zl t.args];have e1:=jB (i:=k) (n:=k+1) (by omega) (by omega);have e2:=jB (i:=M.length) (n:=M.length+1) (by omega) (by omega);obtain ⟨Y,e3⟩:=ht t (by simp) (k+1) (by omega);have h7:=je7 M (r.map jm) [sv s,zl t.args] [sv s,.sl 2 Y];obtain ⟨X,ih⟩:=jeJ r (M++[[sv s,.sl 2 Y]]) (k+1+Ki t.args) (by omega) (by simp;omega) λu hu=>ht u (by simp [hu]);have q:(M++[[sv s,.sl 2 Y]]).length=M.length+1:=by simp
  have q2:M++[[sv s,.sl 2 Y]]++r.map jm=M++[sv s,.sl 2 Y]::r.map jm:=by simp
  rw [q,q2,show k+1+Ki t.args+Ki r=k+(1+Ki t.args+Ki r) by omega] at ih;have o1:kE (jm t) 0 [sv s] = [sv s,zl t.args]:=by rw [kA];rfl
  have o2:kE [sv s,zl t.args] 1 [.sl 2 Y] = [sv s,.sl 2 Y]:=rfl;have tv:jmM (jm t) 0 1=true:=by rw [kA];rfl
  refine ⟨X,?_⟩;rw [jjh,zd,Ki,jhQ];simp only [jr,h1,e0,h2,h3,Qi,tv,o1,h4,h5,h6,jlL,e1,e3,Ze,o2,h7,e2,ih]
theorem jul (t:T):qB t-> ∀k:Nat,k+Ki t.args<=100000000-> ∃X,jbs (vi (k:Nat)) (t.args.map jm)=some (.top,[vi ((k+Ki t.args:Nat):Int),.sl 66 X]):=by
 refine T.ind (p:=λt=>qB t-> ∀k:Nat,k+Ki t.args<=100000000-> ∃X,jbs (vi (k:Nat)) (t.args.map jm)=some (.top,[vi ((k+Ki t.args:Nat):Int),.sl 66 X])) ?_ t;intro t ih hw k hk;obtain ⟨_,w2,w3⟩:=(j5 t).1 hw;have w3:=(jC _).1 w3;obtain ⟨X,h⟩:=jeJ t.args [] k hk (by simpa using w2) λu hu=>ih u hu (w3 u hu);refine ⟨X,?_⟩;rw [jqF];exact h
def HL:Nat->List T->Nat->Prop
 | k,[],k'=>k'=k
 | k,u::us,k'=>∃k1:Nat,G 47 [vi (k:Nat)]=some (sv u.name,[])/\G 39 [zl u.args,vi ((k+1:Nat):Int)]=some (vi (k1:Nat),[])/\k < k1/\HL k1 us k'
theorem jk4:∀(r:List T) (k k':Nat),HL k r k'->k<=k'
 | [],k,k',h=>by have h:k'=k:=h;omega
 | u::r,k,k',⟨k1,_,_,g3,g4⟩=>by have:=jk4 r k1 k' g4;omega
theorem jdx:∀(r:List T) (M:List T) (k k':Nat),k'<=100000000->M.length+r.length<=9223372036854775807->k<=k'->HL k r k'->jiF (zl (M++r)) (vi (k:Nat)) (vi (M.length:Nat))=some (vi (k':Nat),[])
 | [],M,k,k',_,_,_,h=>by
  have h:k'=k:=h;subst h;rw [joM,qO];simp only [jr]
 | u::r,M,k,k',hk,hl,hkk,⟨k1,g1,g2,g3,g4⟩=>by
  have h1:((M.length:Nat):Int) < (((M++u::r).length:Nat):Int):=jl4 M r u;have h2:jw 2 (zl (M++u::r)) (vi (M.length:Nat))=some (.elt (jm u) 0):=jl3 (f:=jm) (k:=2) M r u;have hle:k1<=k':=jk4 r k1 k' g4;have e1:=jB (i:=k) (n:=k+1) (by omega) (by omega);have h5:=jB (i:=M.length) (n:=(M++u::r).length) (by simp) (by simp;simp at hl;omega);have ih:=jdx r (M++[u]) k1 k' hk (by simp at hl ⊢;omega) hle g4;have q:(M++[u]).length=M.length+1:=by simp
  rw [q,zj,List.singleton_append] at ih;have ad:jeX (.elt (jm u) 0) 1=some (.elt (jm u) 1):=by rw [jcg]
  have ad0:jeX (.elt (jm u) 0) 0=some (.elt (jm u) 0):=by rw [jcg]
  have lp:yW (.elt (jm u) 1)=some (zl u.args):=by rw [kA];rfl
  have lp0:yW (.elt (jm u) 0)=some (sv u.name):=by rw [kA];rfl
  have nk:¬((k1:Nat):Int) < 0:=by omega
  rw [joM];simp only [jr,h1,h2,ad,ad0,lp,lp0,g1,e1,g2,nk,h5,ih]
theorem jnC (us:List T) (k k':Nat) (hk:k'<=100000000) (hl:us.length<=9223372036854775807) (h:HL k us k'):G 39 [zl us,vi (k:Nat)]=some (vi (k':Nat),[]):=by
 have:=jdx us [] k k' hk (by simpa using hl) (jk4 us k k' h) h;rw [g39];exact this
theorem Yj:∀(r:List T) (M:List (List A)) (k:Nat),k+Ki r<=100000000->M.length+r.length<=9223372036854775807->
  (∀t∈r,∀k:Nat,k+Ki t.args<=100000000-> ∃us:List T,jbs (vi (k:Nat)) (t.args.map jm)=some (.top,[vi ((k+Ki t.args:Nat):Int),.sl 66 (us.map jm)])/\G 39 [zl us,vi (k:Nat)]=some (vi ((k+Ki t.args:Nat):Int),[]))->
  ∃us:List T,us.length=r.length/\HL k us (k+Ki r)/\ja3 (vi (k:Nat)) (vi (M.length:Nat)) (M++r.map jm)=some (.top,[vi ((k+Ki r:Nat):Int),.sl 66 (M++us.map jm)])
 | [],M,k,hk,hl,_=>by
  refine ⟨[],rfl,rfl,?_⟩;rw [jjh,jfk,qO];simp only [jr,Ki,zJ]
 | t::r,M,k,hk,hl,ht=>by
  simp only [Ki,jhQ,qf] at hk hl;have h1:((M.length:Nat):Int) < (((M++jm t::r.map jm).length:Nat):Int):=by simp;omega
  have h2:=jia M (r.map jm) (jm t);have h3:=je5 M (r.map jm) (jm t);obtain ⟨s,e0⟩:=jaC k (by omega);have h4:=je7 M (r.map jm) (jm t) [sv s,zl t.args];have h5:=jia M (r.map jm) [sv s,zl t.args];have h6:=je5 M (r.map jm) [sv s,zl t.args];have e1:=jB (i:=k) (n:=k+1) (by omega) (by omega);have e2:=jB (i:=M.length) (n:=M.length+1) (by omega) (by omega);obtain ⟨vs,e3,e4⟩:=ht t (by simp) (k+1) (by omega);have h7:=je7 M (r.map jm) [sv s,zl t.args] [sv s,zl vs];obtain ⟨us,l1,l2,ih⟩:=Yj r (M++[[sv s,zl vs]]) (k+1+Ki t.args) (by omega) (by simp;omega) λu hu=>ht u (by simp [hu]);have q:(M++[[sv s,zl vs]]).length=M.length+1:=by simp
  have q2:M++[[sv s,zl vs]]++r.map jm=M++[sv s,zl vs]::r.map jm:=by simp
  have q3:M++[[sv s,zl vs]]++us.map jm=M++(T.mk s vs::us).map jm:=by rw [zd,kA (.mk s vs),zj];rfl
  have e4:G 39 [zl vs,vi ((k+1:Nat):Int)]=some (vi ((k+1+Ki t.args:Nat):Int),[]):=e4;have hHL:HL k (T.mk s vs::us) (k+(1+Ki t.args+Ki r)):=⟨k+1+Ki t.args,e0,e4,by omega,by rw [show k+(1+Ki t.args+Ki r)=k+1+Ki t.args+Ki r by omega];exact l2⟩;rw [q,q2,q3,show k+1+Ki t.args+Ki r=k+(1+Ki t.args+Ki r) by omega] at ih;have o1:kE (jm t) 0 [sv s] = [sv s,zl t.args]:=by rw [kA];rfl
  have o2:kE [sv s,zl t.args] 1 [zl vs] = [sv s,zl vs]:=rfl;have tv:jmM (jm t) 0 1=true:=by rw [kA];rfl
  refine ⟨T.mk s vs::us,by simp [l1],by rw [Ki,jhQ];exact hHL,?_⟩
  rw [jjh,zd,Ki,jhQ];simp only [jr,h1,e0,h2,h3,Qi,tv,o1,h4,h5,h6,jlL,e1,e3,Ze,o2,h7,e2,ih]
theorem jl2 (t:T):qB t-> ∀k:Nat,k+Ki t.args<=100000000-> ∃us:List T,jbs (vi (k:Nat)) (t.args.map jm)=some (.top,[vi ((k+Ki t.args:Nat):Int),.sl 66 (us.map jm)])/\G 39 [zl us,vi (k:Nat)]=some (vi ((k+Ki t.args:Nat):Int),[]):=by
 refine T.ind (p:=λt=>qB t-> ∀k:Nat,k+Ki t.args<=100000000-> ∃us:List T,jbs (vi (k:Nat)) (t.args.map jm)=some (.top,[vi ((k+Ki t.args:Nat):Int),.sl 66 (us.map jm)])/\G 39 [zl us,vi (k:Nat)]=some (vi ((k+Ki t.args:Nat):Int),[])) ?_ t;intro t ih hw k hk;obtain ⟨_,w2,w3⟩:=(j5 t).1 hw;have w3:=(jC _).1 w3;obtain ⟨us,l1,l2,h⟩:=Yj t.args [] k hk (by simpa using w2) λu hu=>ih u hu (w3 u hu);refine ⟨us,?_,jnC us k _ hk (by rw [l1];exact w2) l2⟩;rw [jqF];exact h
theorem jt2 (ts:List T) (hw:∀t∈ts,qB t) (hl:ts.length<=9223372036854775807) (k:Nat) (hk:k+Ki ts<=100000000):∃X,jbs (vi (k:Nat)) (ts.map jm)=some (.top,[vi ((k+Ki ts:Nat):Int),.sl 66 X]):=by
 obtain ⟨X,h⟩:=jeJ ts [] k hk (by simpa using hl) λu hu=>jul u (hw u hu);refine ⟨X,?_⟩;rw [jqF];exact h
theorem jxo (n:List UInt8) (us:List T):tsz (.mk n us)=n.length+us.length+ZI us:=rfl
theorem jxp:∀t:T,tsz t<=1048576->qB t:=by
 refine T.ind λt ih h=> ?_;have h':=h;rw [zH] at h';exact (j5 t).2 ⟨by omega,by omega,(jC _).2 λu hu=>ih u hu (by have:=zW hu;omega)⟩
theorem jsm {n:Nat} (h:n<=4194304):Ji n 40=true:=by
 unfold Ji;exact ZO ⟨by omega,by omega⟩
theorem jhW (t:T):tsz t<=1048576->G 27 [tm t]=some (tm t,[]):=by
 refine T.ind (p:=λt=>tsz t<=1048576->G 27 [tm t]=some (tm t,[])) ?_ t;intro t ih h;rw [zH] at h;have key:=(upto (P:=λi=>jiB (vi i) (sv t.name) (zl t.args) (sv []) (sv t.name) [] ((t.args.take i).map jm)=some (tm t,[])) (n:=t.args.length) ?_ ?_ 0 (zZ _))
 ·rw [g27];simp only [ya,jm4,jfk] at key;simp only [jr,key]
 ·rw [joI,jrm];simp only [jr]
 ·intro i hi ih';have hlt:(i:Int) < ((t.args.length:Nat):Int):=by omega
  have h5:=jB hi (by show t.args.length<=9223372036854775807;omega)
  have e1:=ih t.args[i] (zf _) (by have:=zW (zf hi);omega)
  have hf:Ji (i+1) 40=true:=jsm (by omega);have hl:((t.args.take i).map jm).length=i:=by rw [jdj,jfv];omega
  have ha:Kb ((t.args.take i).map jm) [[sv t.args[i].name,zl t.args[i].args]]=(t.args.take (i+1)).map jm:=by
   rw [show [sv t.args[i].name,zl t.args[i].args]=jm t.args[i] from (kA _).symm,jsM,jL hi,jaP];rfl
  rw [joI];simp only [jr,hlt,jb hi,jg,e1,hl,hf,ha,h5,ih',jfv,jfr (jef hi)]
theorem jjw (o:Ord') (s t:T):kz o s t=0↔rk o s=rk o t/\s.args.length=t.args.length:=by
 unfold kz KN;constructor
 ·intro h;split at h
  ·rename_i h1;refine ⟨h1,?_⟩;split at h
   ·omega
   ·split at h<;>omega
  ·split at h
   ·omega
   ·split at h<;>omega
 ·rintro ⟨h1,h2⟩;rw [jq h1,jp (by omega),jp (by omega)]
theorem jn3 (o:Ord') (s:T):kz o s s=0:=(jjw o s s).2 ⟨rfl,rfl⟩
theorem ji6:∀l:List T,fd l l=none
 | []=>rfl
 | x::l=>by rw [fd,jq (jc4.2 rfl),ji6 l]
def Lp (o:Ord') (s t:T):Prop:=jke o (nodes s+nodes t) s t=true
theorem qh {s a:T} (h:a∈s.args):nodes a < nodes s:=by
 have:=yj h;rw [jS s];omega
def Kp (o:Ord') (s t:T):Prop:=qa o (nodes s+nodes t) s t=true
theorem Yw (o:Ord'):∀(n m:Nat) (s t:T),nodes s+nodes t<=n->nodes s+nodes t<=m->qa o n s t=qa o m s t
 | 0,_,s,t,h,_=>by have:=qp s;omega
 | _+1,0,s,t,_,h=>by have:=qp s;omega
 | n+1,m+1,s,t,h1,h2=>by
  rw [qa,qa];cases hf:fd s.args t.args with
  | none=>rfl
  | some p=>
   obtain ⟨a,b⟩:=p;have hm:=jeC hf;have h3:=qh hm.1;have h4:=qh hm.2;simp only [Yw o n m a b (by omega) (by omega)]
theorem jek (o:Ord') (s t:T):Kp o s t↔bal s t=true/\(wt o t < wt o s\/(wt o s=wt o t/\(kS s.name=false/\kS t.name=false)/\(0 < kz o s t\/(kz o s t=0/\ ∃a b,fd s.args t.args=some (a,b)/\Kp o a b)))):=by
 unfold Kp;obtain ⟨n,hn⟩:∃n,nodes s+nodes t=n+1:=⟨nodes s+nodes t - 1,by have:=qp s;omega⟩;rw [hn,qa];have e3:(match fd s.args t.args with|some (a,b)=>qa o n a b|none=>false)=true↔ ∃a b,fd s.args t.args=some (a,b)/\qa o (nodes a+nodes b) a b=true:=by
  cases hf:fd s.args t.args with
  | none=>simp
  | some p=>
   obtain ⟨a,b⟩:=p;have hm:=jeC hf;have h3:=qh hm.1;have h4:=qh hm.2;dsimp only;rw [Yw o n (nodes a+nodes b) a b (by omega) (jV _)];constructor
   ·intro h;exact ⟨a,b,rfl,h⟩
   ·rintro ⟨a',b',h,h'⟩;cases h;exact h'
 cases hb:bal s t
 ·simp
 ·rw [jq rfl];simp only [true_and];by_cases hw:wt o s=wt o t
  ·rw [jq hw];have hw':¬wt o t < wt o s:=by omega
   cases hv:kS s.name
   ·cases hv2:kS t.name
    ·simp only [Bool.or_self,ZP,KC,true_and,and_self];by_cases hr:kz o s t=0
     ·rw [jq hr];refine Iff.trans e3 ?_;constructor
      ·intro h;exact Or.inr ⟨hw,Or.inr ⟨hr,h⟩⟩
      ·rintro (h|⟨_,h|⟨_,h⟩⟩)
       ·exact (hw' h).elim
       ·omega
       ·exact h
     ·rw [jp hr,jfs];constructor
      ·intro h;exact Or.inr ⟨hw,Or.inl h⟩
      ·rintro (h|⟨_,h|⟨h,_⟩⟩)
       ·exact (hw' h).elim
       ·exact h
       ·exact (hr h).elim
    ·simp [hw']
   ·simp [hw']
  ·rw [jp hw,jfs];constructor
   ·intro h;exact Or.inl h
   ·rintro (h|⟨h,_⟩)
    ·exact h
    ·exact (hw h).elim
theorem jhh (o:Ord') (x:T):¬Kp o x x:=by
 intro h;obtain ⟨_,h|⟨_,_,h|⟨_,_,_,h,_⟩⟩⟩:=(jek o x x).1 h
 ·omega
 ·rw [jn3] at h;omega
 ·rw [ji6] at h;cases h
theorem QT (o:Ord') (s t:T):kW o s t=Yc (dq s t) (@decide (Kp o s t) (Classical.propDecidable _)) (@decide (Kp o t s) (Classical.propDecidable _)):=by
 have e1:qa o (nodes s+nodes t) s t = @decide (Kp o s t) (Classical.propDecidable _):=by
  unfold Kp;cases qa o (nodes s+nodes t) s t<;>simp
 have e2:qa o (nodes s+nodes t) t s = @decide (Kp o t s) (Classical.propDecidable _):=by
  rw [Yw o (nodes s+nodes t) (nodes t+nodes s) t s (by omega) (jV _)];unfold Kp;cases qa o (nodes t+nodes s) t s<;>simp
 unfold kW;rw [e1,e2]
def rbI (c:Int):Int:=if c=2 then 3 else if c=3 then 2 else c
open Classical in
open Classical in
theorem jlr {R:T->T->Prop} {s t:T} (hir:∀x,¬R x x):Yc (dq s t) (decide (R s t)) (decide (R t s))=2↔R s t:=by
 unfold Yc;cases hd:dq s t
 ·by_cases h1:R s t
  ·simp [h1]
  ·by_cases h2:R t s<;>simp [h1,h2]
 ·have:=jc4.1 hd;subst this;simp [hir s]
theorem jje (o:Ord') (s t:T):kW o s t=2↔Kp o s t:=by
 rw [QT];exact jlr (R:=Kp o) (jhh o)
theorem Qa (s:List UInt8):kY (sv s)=true:=rfl
theorem jti (n:Int):kY (vi n)=true:=rfl
theorem jlF (b:Bool):kY (vb b)=true:=rfl
theorem jhs (ts:List T) (hl:ts.length<=1048576) (ih:∀t∈ts,jdk (tm t)=some (.top,[sv t.name,.sl 66 (t.args.map jm)])):jk3 (zl ts)=some (.top,[.sl 66 (ts.map jm)]):=by
 by_cases h0:ts.length=0
 ·have:ts = []:=JN h0;subst this;have hz:(((0:Nat):Int)=0)=True:=by simp
  rw [joy];simp only [jr,jfk,hz]
 have hn:¬(((ts.length:Nat):Int)=0):=by omega
 have key:=(upto (P:=λi=>ja8 (zl ts) (vi (ts.length:Nat)) (vi i) (part jm [sv [],.sl 2 []] ts i)=some (.top,[.sl 66 (ts.map jm)])) (n:=ts.length) ?_ ?_ 0 (zZ _))
 ·rw [joy];have hm:=ZZ (b:=40) (n:=ts.length) (by omega) hl;simp only [ya,<-Z1] at key;simp only [jr,hn,hm,key]
 ·rw [jjn,Qs];simp only [jr]
 ·intro i hi ih';have h1:=JZ (f:=jm) (z:=[sv [],.sl 2 []]) (jef hi);have h2:pIx (part jm [sv [],.sl 2 []] ts i).length (vi i)=some i:=YE (by omega);have h4:=Qu (f:=jm) (z:=[sv [],.sl 2 []]) hi;rw [kA] at h4;have h5:=jB hi (zK hl (by decide));have e1:=ih ts[i] (zf _);rw [jjn];simp only [jr,hi,Int.ofNat_lt,jb hi,jg,e1,Ze,Qi,Qa,h2,Qt hi,jey,h4,h5,ih']
theorem jqM (t:T):tsz t<=1048576->jdk (tm t)=some (.top,[sv t.name,.sl 66 (t.args.map jm)]):=by
 refine T.ind (p:=λt=>tsz t<=1048576->jdk (tm t)=some (.top,[sv t.name,.sl 66 (t.args.map jm)])) ?_ t;intro t ih h;rw [zH] at h;have e:=jhs t.args (by omega) λu hu=>ih u hu (by have:=zW hu;omega);rw [jqI];simp only [jr,e]
noncomputable def jbh (o:Ord') (t:T):A:=if kL o && Zm o t then .tup [if kW o (kT t) (ze t)=3 then .agg [sv t.name,zl [ze t,kT t]] else tm t,vb (decide (kW o (kT t) (ze t)=3) || decide (kW o (kT t) (ze t)=2)),vb true] else .tup [.agg [sv [],.sl 2 []],vb false,vb false]
theorem Jc {t u:T} (h:u∈t.args) (hs:tsz t<=1048576):tsz u<=1048576:=by
 have:=zW h;rw [zH] at hs;omega
theorem jfi:∀t:T,tsz t<=1048576->qB t:=by
 refine T.ind λt ih h=> ?_;have h':=h;rw [zH] at h';exact (j5 t).2 ⟨by omega,by omega,(jC _).2 λu hu=>ih u hu (Jc hu h)⟩
noncomputable def oT (o:Ord') (t:T):T:=if kL o && Zm o t then (if kW o (kT t) (ze t)=3 then .mk t.name [ze t,kT t] else t) else .mk [] []
noncomputable def oG (o:Ord') (t:T):Bool:=(kL o && Zm o t) && (decide (kW o (kT t) (ze t)=3) || decide (kW o (kT t) (ze t)=2))
theorem jdF (t:T) (hw:qB t) (k:Nat) (hk:k+Ki t.args<=100000000):∃us:List T,jbr (sv t.name) (vi (k:Nat)) (t.args.map jm)=some (.top,[vi ((k+Ki t.args:Nat):Int),.sl 66 (us.map jm)])/\G 15 [.agg [sv t.name,zl us],vi (k:Nat)]=some (vi ((k+Ki t.args:Nat):Int),[]):=by
 obtain ⟨us,h1,h2⟩:=jl2 t hw k hk;refine ⟨us,?_,?_⟩
 ·rw [jqD];simp only [jr,h1,Ze]
 ·have h3:¬((k+Ki t.args:Nat):Int) < 0:=by omega
  rw [g15];simp only [jr,h2,h3]
theorem jr0 (a b:A):jc [a,b] 0=a/\jc [a,b] 1=b:=⟨rfl,rfl⟩
theorem jjq (t:T):Ki t.args<=tsz t:=by
 have:=jeS t.args;rw [zH];omega
end Go.Proofs.YtjbkclajpheekaaGreat
