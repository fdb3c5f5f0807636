/- Pa -/
import Derived.Test.YtdbgbieenhcldaaGreatDoorKt
import Derived.Test.YtdbgbieenhcldaaGreatDoorPq
import Derived.Test.YtdbgbieenhcldaaGreatDoorEd
import Derived.ChangeSame
import Derived.Sort.Walk0
import Derived.Lib.ItoaNum
namespace Go.Proofs.YtdbgbieenhcldaaGreatDoor
open Go Go.RowKit Go.Proofs.YtdbgbieenhcldaaGreatDoor.Abs
set_option linter.unusedSimpArgs false
set_option linter.unusedVariables false
abbrev ci (n:Int):List A:=[vi n]
abbrev cs (s:List UInt8):List A:=[sv s]
abbrev ints (l:List Int):A:= .sl 1 (l.map ci)
abbrev strs (l:List (List UInt8)):A:= .sl 1 (l.map cs)
section
theorem jgX {α:Type} (x y:α):brn true x y=x:=rfl
theorem Q1 {α:Type} (x y:α):brn false x y=y:=rfl
theorem jq0 {α:Type} (b:Bool) (x y:α):brn b x y=if b=true then x else y:=rfl
theorem jrJ:(-1:Int) < 0:=by decide
theorem jc5 (b:Bool):zx (vb b)=some b:=rfl
theorem jh9 (b:Bool) (x y:A):Jz (vb b) x y=some (if b=true then x else y):=rfl
theorem jta (b w:Bool) (x:Option A):pG (vb b) w x=if b=w then x else some (.val undef):=rfl
theorem jic (b w:Bool):qC (vb b) w=some (decide (b=w)):=rfl
theorem jpI (w:Bool) (x:Option A):pG (.val undef) w x=some (.val undef):=rfl
theorem jib (w:Bool):qC (.val undef) w=some false:=rfl
theorem jpK (k:Nat) (xs:List (List A)):qB (.sl k xs)=some (vi xs.length):=rfl
theorem jlJ (xs:List (List A)):yF xs=vi xs.length:=rfl
theorem jdj (xs:List (List A)):jw xs=xs.length:=rfl
theorem Zf (l:List UInt8):Ze (sv l)=some (vi l.length):=rfl
theorem jhe (a:A):fin false (a,[])=some a:=rfl
theorem jt3 (b c:Bool):fin c (vb b,[])=some (vb b):=by cases c<;>rfl
theorem jt4 (c:Bool) (n:Int):fin c (vi n,[])=some (vi n):=by cases c<;>rfl
theorem jrT (b:Bool):KR .not (vb b)=some (vb (!b)):=rfl
theorem jh5 (b:Bool) (x y:Int):js .lss b (vi x) (vi y)=some (vb (decide (x < y))):=rfl
theorem jpD (b:Bool) (x y:Int):js .leq b (vi x) (vi y)=some (vb (decide (x<=y))):=rfl
theorem jpC (b:Bool) (x y:Int):js .gtr b (vi x) (vi y)=some (vb (decide (y < x))):=rfl
theorem jpB (b:Bool) (x y:Int):js .geq b (vi x) (vi y)=some (vb (decide (y<=x))):=rfl
theorem jpA (b:Bool) (x y:Int):js .eql b (vi x) (vi y)=some (vb (decide (x=y))):=rfl
theorem jpF (b:Bool) (x y:Int):js .neq b (vi x) (vi y)=some (vb (!decide (x=y))):=rfl
theorem jmV (b:Bool) (x y:Int):js .lss b (vy x) (vy y)=some (vb (decide (x < y))):=rfl
theorem jmU (b:Bool) (x y:Int):js .leq b (vy x) (vy y)=some (vb (decide (x<=y))):=rfl
theorem jmT (b:Bool) (x y:Int):js .gtr b (vy x) (vy y)=some (vb (decide (y < x))):=rfl
theorem jmS (b:Bool) (x y:Int):js .geq b (vy x) (vy y)=some (vb (decide (y<=x))):=rfl
theorem jmR (b:Bool) (x y:Int):js .eql b (vy x) (vy y)=some (vb (decide (x=y))):=rfl
theorem jmW (b:Bool) (x y:Int):js .neq b (vy x) (vy y)=some (vb (!decide (x=y))):=rfl
theorem jmX (x y:Bool):js .eql true (vb x) (vb y)=some (vb (decide (x=y))):=rfl
theorem jmY (x y:Bool):js .neq true (vb x) (vb y)=some (vb (!decide (x=y))):=rfl
theorem J9 (b:Bool) (x y:Int):js .add b (vi x) (vi y)=ck (x+y):=by cases b<;>rfl
theorem jh6 (b:Bool) (x y:Int):js .sub b (vi x) (vi y)=ck (x - y):=by cases b<;>rfl
theorem jpE (b:Bool) (x y:Int):js .mul b (vi x) (vi y)=ck (x * y):=by cases b<;>rfl
theorem jH {n:Int} (h1: -9223372036854775808<=n) (h2:n<=9223372036854775807):ck n=some (vi n):=if_pos ⟨h1,h2⟩
theorem Ka (b:Bool) (x y:List UInt8):js .add b (sv x) (sv y)=if x.length+y.length<=9223372036854775807 then some (sv (x++y)) else none:=by cases b<;>rfl
theorem jet (b:Bool) (x y:List UInt8):js .eql b (sv x) (sv y)=some (vb (decide (x=y))):=rfl
theorem jm1 (b:Bool) (x y:List UInt8):js .neq b (sv x) (sv y)=some (vb (!decide (x=y))):=rfl
theorem jm0 (b:Bool) (x y:List UInt8):js .lss b (sv x) (sv y)=some (vb (yk x y)):=rfl
theorem jpM (a:A) (l:List A):zn (.elt (a::l) 0)=some a:=rfl
theorem Jh (cs:List A) (off n:Nat):qL (.elt cs off) n=some (.elt cs (off+n)):=rfl
theorem jj7 (off:Nat) (cs:List A):jc8 off (.agg cs)=cs[off]? :=rfl
theorem jj5 (n:Nat) (ds:List A):Kq n (.agg ds)=if ds.length=n/\ds.all jX=true then some ds else none:=rfl
theorem jmg (a:A) (l:List A):jc (a::l) 0=a:=rfl
theorem jof (a b:A) (l:List A):jc (a::b::l) 1=b:=rfl
theorem jog (a b c:A) (l:List A):jc (a::b::c::l) 2=c:=rfl
theorem jjo (a b c d:A) (l:List A):jc (a::b::c::d::l) 3=d:=rfl
theorem juj (k:Nat) (xs:List (List A)):jX (.sl k xs)=true:=rfl
theorem jrN (cs:List A) (o:Nat):jX (.elt cs o)=true:=rfl
theorem jui (f:FuncId) (l:List A):jX (.fn f l)=true:=rfl
theorem jum (n:Int):jX (vi n)=true:=rfl
theorem jul (b:Bool):jX (vb b)=true:=rfl
theorem juk (l:List UInt8):jX (sv l)=true:=rfl
theorem juq (n:Nat) (i:Int):Z7 n (vi i)=if 0<=i/\i < (n:Int) then some i.toNat else none:=rfl
theorem yb {n i:Nat} (h:i < n):Z7 n (vi i)=some i:=by
 rw [juq,if_pos ⟨by omega,by omega⟩];simp
theorem jpO (k:Nat) (xs:List (List A)):jdb k (.sl k xs)=some xs:=if_pos rfl
theorem jut (a:A) (l:List A):Kr (.tup (a::l)) 0=some a:=rfl
theorem juu (a b:A) (l:List A):Kr (.tup (a::b::l)) 1=some b:=rfl
theorem juv (a b c:A) (l:List A):Kr (.tup (a::b::c::l)) 2=some c:=rfl
theorem jrR (x y:Int):jj9 (vi x) (vi y)=some (vi (if x < y then y else x)):=by
 unfold jj9;simp
theorem jrS (x y:Int):jm3 (vi x) (vi y)=some (vi (if y < x then y else x)):=by
 unfold jm3;simp
theorem jvH (a:A) (l:List A) (i:Nat):hD (a,l) i=l[i]? :=rfl
theorem jxZ (k:Nat) (a:A) (xs:List (List A)) (l:List A):hR k (a,.sl k xs::l) 0=some xs:=by simp [hR]
theorem jx0 (k:Nat) (a b:A) (xs:List (List A)) (l:List A):hR k (a,b:: .sl k xs::l) 1=some xs:=by simp [hR]
theorem jx1 (k:Nat) (a b c:A) (xs:List (List A)) (l:List A):hR k (a,b::c:: .sl k xs::l) 2=some xs:=by simp [hR]
theorem JZ {f:FuncId} {caps args:List A} {c:Bool} (h:K.pureF f=true):DX.run K (MM K) (.callc (.fn f caps) args c)=(G f (args++caps)).bind (fin c):=by
 simp only [DX.run,h,if_true]
theorem jb {α:Type} {k:Nat} {f:α->List A} {xs:List α} {i:Nat} (h:i < xs.length):ju k (.sl k (xs.map f)) (vi i)=some (.elt (f xs[i]) 0):=by
 simp only [ju,if_true,List.length_map,yb h,Option.map_some];simp [List.getD_eq_getElem?_getD,h]
theorem jv {i n:Nat} (h:i < n) (hn:n<=9223372036854775807):js .add false (vi i) (vi 1)=some (vi ((i+1:Nat):Int)):=by
 rw [J9,jH (by omega) (by omega)];rfl
theorem jvV (d top:Nat) (z:Int):pB d top (some (vi z))=if 0<=z/\z<=(top:Int) then some z.toNat else none:=rfl
theorem jh4 {d top n:Nat} (h:n<=top):pB d top (some (vi n))=some n:=by
 rw [jvV,if_pos ⟨by omega,by omega⟩];simp
theorem Yu {d top:Nat} (h:d<=top):pB d top none=some d:=if_pos h
theorem jrV (xs:List (List A)):Ji xs=xs.length:=rfl
theorem jbG (xs:List (List A)) (off:Nat):Ks xs off=xs.length - off:=rfl
theorem jlK (xs:List (List A)) (off n:Nat):ZU xs off n=(xs.drop off).take n:=rfl
theorem jik (xs:List (List A)) (off:Nat) (ys:List (List A)):yj xs off ys=xs.take off++ys++xs.drop (off+ys.length):=rfl
theorem Qr (a b:Nat):yq a b=a - b:=rfl
theorem upto {P:Nat->Prop} {n:Nat} (h0:P n) (hs:∀i,i < n->P (i+1)->P i):∀i,i<=n->P i:=by
 intro i hi;obtain ⟨k,hk⟩:∃k,n=i+k:=⟨n - i,by omega⟩;induction k generalizing i with
 | zero=>rw [show i=n by omega];exact h0
 | succ k ih=>exact hs i (by omega) (ih (i+1) (by omega) (by omega))
theorem jl {α:Type} {xs:List α} {i:Nat} (h:i < xs.length):xs.drop i=xs[i]::xs.drop (i+1):=List.drop_eq_getElem_cons h
theorem evs :
  ((-1:Int) < 0)/\
  (∀ {α:Type} (x y:α),brn true x y=x)/\
  (∀ {α:Type} (x y:α),brn false x y=y)/\
  (∀ {α:Type} (b:Bool) (x y:α),brn b x y=if b=true then x else y)/\
  (∀ {α β:Type} (a:α) (f:α->Option β),(some a).bind f=f a)/\
  (∀ {α β:Type} (f:α->Option β),none.bind f=none)/\
  (∀(b:Bool),zx (vb b)=some b)/\
  (∀(b:Bool) (x y:A),Jz (vb b) x y=some (if b=true then x else y))/\
  (∀(b w:Bool) (x:Option A),pG (vb b) w x=if b=w then x else some (A.val undef))/\
  (∀(b w:Bool),qC (vb b) w=some (decide (b=w)))/\
  (∀(w:Bool) (x:Option A),pG (A.val undef) w x=some (A.val undef))/\
  (∀(w:Bool),qC (A.val undef) w=some false)/\
  (∀(k:Nat) (xs:List (List A)),qB (A.sl k xs)=some (vi ↑xs.length))/\
  (∀(xs:List (List A)),yF xs=vi ↑xs.length)/\
  (∀(xs:List (List A)),jw xs=xs.length)/\
  (∀(l:List UInt8),Ze (sv l)=some (vi ↑l.length))/\
  (∀(a:A),fin false (a,[])=some a)/\
  (∀(b c:Bool),fin c (vb b,[])=some (vb b))/\
  (∀(c:Bool) (n:Int),fin c (vi n,[])=some (vi n))/\
  (∀(b:Bool),KR UnOp.not (vb b)=some (vb !b))/\
  (∀(b:Bool) (x y:Int),js BinOp.lss b (vi x) (vi y)=some (vb (decide (x < y))))/\
  (∀(b:Bool) (x y:Int),js BinOp.leq b (vi x) (vi y)=some (vb (decide (x<=y))))/\
  (∀(b:Bool) (x y:Int),js BinOp.gtr b (vi x) (vi y)=some (vb (decide (y < x))))/\
  (∀(b:Bool) (x y:Int),js BinOp.geq b (vi x) (vi y)=some (vb (decide (y<=x))))/\
  (∀(b:Bool) (x y:Int),js BinOp.eql b (vi x) (vi y)=some (vb (decide (x=y))))/\
  (∀(b:Bool) (x y:Int),js BinOp.neq b (vi x) (vi y)=some (vb !decide (x=y)))/\
  (∀(b:Bool) (x y:Int),js BinOp.lss b (vy x) (vy y)=some (vb (decide (x < y))))/\
  (∀(b:Bool) (x y:Int),js BinOp.leq b (vy x) (vy y)=some (vb (decide (x<=y))))/\
  (∀(b:Bool) (x y:Int),js BinOp.gtr b (vy x) (vy y)=some (vb (decide (y < x))))/\
  (∀(b:Bool) (x y:Int),js BinOp.geq b (vy x) (vy y)=some (vb (decide (y<=x))))/\
  (∀(b:Bool) (x y:Int),js BinOp.eql b (vy x) (vy y)=some (vb (decide (x=y))))/\
  (∀(b:Bool) (x y:Int),js BinOp.neq b (vy x) (vy y)=some (vb !decide (x=y)))/\
  (∀(x y:Bool),js BinOp.eql true (vb x) (vb y)=some (vb (decide (x=y))))/\
  (∀(x y:Bool),js BinOp.neq true (vb x) (vb y)=some (vb !decide (x=y)))/\
  (∀(b:Bool) (x y:Int),js BinOp.add b (vi x) (vi y)=ck (x+y))/\
  (∀(b:Bool) (x y:Int),js BinOp.sub b (vi x) (vi y)=ck (x - y))/\
  (∀(b:Bool) (x y:Int),js BinOp.mul b (vi x) (vi y)=ck (x * y))/\
  (∀(b:Bool) (x y:List UInt8),js BinOp.eql b (sv x) (sv y)=some (vb (decide (x=y))))/\
  (∀(b:Bool) (x y:List UInt8),js BinOp.neq b (sv x) (sv y)=some (vb !decide (x=y)))/\
  (∀(b:Bool) (x y:List UInt8),js BinOp.lss b (sv x) (sv y)=some (vb (yk x y)))/\
  (∀(a:A) (l:List A),zn (A.elt (a::l) 0)=some a)/\
  (∀(cs:List A) (off n:Nat),qL (A.elt cs off) n=some (A.elt cs (off+n)))/\
  (∀(off:Nat) (cs:List A),jc8 off (A.agg cs)=cs[off]?)/\
  (∀(n:Nat) (ds:List A),Kq n (A.agg ds)=if ds.length=n/\ds.all jX=true then some ds else none)/\
  (∀(a:A) (l:List A),jc (a::l) 0=a)/\
  (∀(a b:A) (l:List A),jc (a::b::l) 1=b)/\
  (∀(a b c:A) (l:List A),jc (a::b::c::l) 2=c)/\
  (∀(a b c d:A) (l:List A),jc (a::b::c::d::l) 3=d)/\
  (∀(k:Nat) (xs:List (List A)),jX (A.sl k xs)=true)/\
  (∀(cs:List A) (o:Nat),jX (A.elt cs o)=true)/\
  (∀(f:FuncId) (l:List A),jX (A.fn f l)=true)/\
  (∀(n:Int),jX (vi n)=true)/\
  (∀(b:Bool),jX (vb b)=true)/\
  (∀(l:List UInt8),jX (sv l)=true)/\
  (∀(k:Nat) (xs:List (List A)),jdb k (A.sl k xs)=some xs)/\
  (∀(a:A) (l:List A),Kr (A.tup (a::l)) 0=some a)/\
  (∀(a b:A) (l:List A),Kr (A.tup (a::b::l)) 1=some b)/\
  (∀(a b c:A) (l:List A),Kr (A.tup (a::b::c::l)) 2=some c)/\
  (∀(x y:Int),jj9 (vi x) (vi y)=some (vi (if x < y then y else x)))/\
  (∀(x y:Int),jm3 (vi x) (vi y)=some (vi (if y < x then y else x)))/\
  (∀(a:A) (l:List A) (i:Nat),hD (a,l) i=l[i]?)/\
  (∀(k:Nat) (a:A) (xs:List (List A)) (l:List A),hR k (a,A.sl k xs::l) 0=some xs)/\
  (∀(k:Nat) (a b:A) (xs:List (List A)) (l:List A),hR k (a,b::A.sl k xs::l) 1=some xs)/\
  (∀(k:Nat) (a b c:A) (xs:List (List A)) (l:List A),hR k (a,b::c::A.sl k xs::l) 2=some xs)/\
  (∀ {α:Type} {a:α} {l:List α} {f:α->Bool},(a::l).all f=(f a && l.all f))/\
  (∀ {α:Type} {f:α->Bool},([]:List α).all f=true)/\
  (∀ {α:Type} {a:α} {l:List α},(a::l).length=l.length+1)/\
  (∀ {α:Type},([]:List α).length=0)/\
  (∀ {α β:Type} {l:List α} (f:α->β),(List.map f l).length=l.length)/\
  (∀(n:Nat),0+n=n)/\
  (∀(b:Bool),(b && b)=b)/\
  (∀(b:Bool),(b && true)=b)/\
  (∀(p:Prop),(p/\p)=p)/\
  (∀ {α:Type} {_x:Decidable True} (t e:α),(if True then t else e)=t)/\
  (∀ {α:Type} {_x:Decidable False} (t e:α),(if False then t else e)=e)/\
  ((true=false)=False)/\
  ((false=true)=False)/\
  (∀(_h:Decidable True),decide True=true)/\
  (∀(_h:Decidable False),decide False=false)/\
  ((!true)=false)/\
  ((!false)=true)/\
  (∀(b:Bool),((!b)=true)=(b=false))/\
  (∀ {p:Prop} [Decidable p],(decide p=true)=p)/\
  (∀ {p:Prop} {x:Decidable p},decide p=false↔ ¬p)/\
  (∀(a:Int),¬a < a)/\
  ((¬True)=False)/\
  ((¬False)=True)/\
  (∀ {α:Type} (a b:α),(if True then a else b)=a)/\
  (∀ {α:Type} (a b:α),(if False then a else b)=b):=
 ⟨@jrJ,@jgX,@Q1,@jq0,@Option.bind_some.{0,0},@Option.bind_none.{0,0},@jc5,@jh9,@jta,@jic,@jpI,@jib,@jpK,@jlJ,@jdj,@Zf,@jhe,@jt3,@jt4,@jrT,@jh5,@jpD,@jpC,@jpB,@jpA,@jpF,@jmV,@jmU,@jmT,@jmS,@jmR,@jmW,@jmX,@jmY,@J9,@jh6,@jpE,@jet,@jm1,@jm0,@jpM,@Jh,@jj7,@jj5,@jmg,@jof,@jog,@jjo,@juj,@jrN,@jui,@jum,@jul,@juk,@jpO,@jut,@juu,@juv,@jrR,@jrS,@jvH,@jxZ,@jx0,@jx1,@List.all_cons.{0},@List.all_nil.{0},@List.length_cons.{0},@List.length_nil.{0},@List.length_map.{0,0},@Nat.zero_add,@Bool.and_self,@Bool.and_true,@and_self,@if_true.{1},@if_false.{1},@Bool.true_eq_false,@Bool.false_eq_true,@decide_true,@decide_false,@Bool.not_true,@Bool.not_false,@Bool.not_eq_true',@decide_eq_true_eq,@decide_eq_false_iff_not,@Int.lt_irrefl,@not_true_eq_false,@not_false_eq_true,@ite_true.{1},@ite_false.{1}⟩
end
theorem jvC:(∀ {α:Type} {h:Decidable True} (a b:α),@ite α True h a b=a)/\(∀ {α:Type} {h:Decidable False} (a b:α),@ite α False h a b=b)/\(1+1=2/\1+2=3/\1+3=4/\1+4=5/\2+1=3/\2+2=4/\2+3=5/\2+4=6/\3+1=4/\3+2=5/\3+3=6/\3+4=7/\4+1=5/\4+2=6/\4+3=7/\4+4=8/\5+1=6/\5+2=7/\5+3=8/\5+4=9/\6+1=7/\6+2=8/\6+3=9/\6+4=10/\7+1=8/\7+2=9/\7+3=10/\7+4=11/\8+1=9/\8+2=10/\8+3=11/\8+4=12/\9+1=10/\9+2=11/\9+3=12/\9+4=13/\10+1=11/\10+2=12/\10+3=13/\10+4=14/\11+1=12/\11+2=13/\11+3=14/\11+4=15/\12+1=13/\12+2=14/\12+3=15/\12+4=16):=by refine ⟨?_,?_,by decide⟩<;>intros<;>simp
theorem jf:type_of% (And.intro evs (And.intro cev jvC)):=And.intro evs (And.intro cev jvC)
open Go Go.RowKit Go.ChangeShapes Go.Deep Go.Proofs.YtdbgbieenhcldaaGreatDoor.Abs
section
variable {P:Program} {t:Nat} {H:Type} {enc:TypeId × Value->H} {w:World} {base:Nat} {spare:Nat->Bool} {held:Bool} {fuel:Nat} {cs:List Value} {x:DataW H × List MemPlace}
end
inductive T where
 | mk (name:List UInt8) (args:List T)
def T.name:T->List UInt8 | .mk n _=>n
def T.args:T->List T | .mk _ us=>us
mutual
def jy:T->List A
 | .mk n us=>[sv n,.sl 2 (jbN us)]
def jbN:List T->List (List A)
 | []=>[]
 | t::ts=>jy t::jbN ts
end
theorem ja6:∀ts:List T,jbN ts=ts.map jy
 | []=>rfl
 | t::ts=>by simp [jbN,ja6 ts]
theorem kg (t:T):jy t = [sv t.name,.sl 2 (t.args.map jy)]:=by
 cases t;simp [jy,T.name,T.args,ja6]
abbrev tm (t:T):A:= .agg [sv t.name,.sl 2 (t.args.map jy)]
abbrev kr (ts:List T):A:= .sl 2 (ts.map jy)
theorem jk (t:T):jP 2 (.elt (jy t) 0)=some (.agg [sv t.name,.sl 2 (t.args.map jy)]):=by rw [kg];rfl
mutual
def tsz:T->Nat
 | .mk n us=>n.length+us.length+zB us
def zB:List T->Nat
 | []=>0
 | t::ts=>tsz t+zB ts
end
theorem j4 (t:T):tsz t=t.name.length+t.args.length+zB t.args:=by cases t;simp [tsz,T.name,T.args]
theorem qj:∀ {ts:List T} {t:T},t∈ts->tsz t<=zB ts
 | [],_,h=>by cases h
 | u::us,t,h=>by
  simp only [zB];rcases List.mem_cons.1 h with rfl|h
  ·omega
  ·have:=qj h;omega
mutual
def twf:T->Prop
 | .mk n us=>n.length<=9223372036854775807/\us.length<=9223372036854775807/\jnE us
def jnE:List T->Prop
 | []=>True
 | t::ts=>twf t/\jnE ts
end
theorem zs (t:T):twf t↔t.name.length<=9223372036854775807/\t.args.length<=9223372036854775807/\jnE t.args:=by cases t;simp [twf,T.name,T.args]
theorem zi:∀ts:List T,jnE ts↔ ∀t∈ts,twf t
 | []=>by simp [jnE]
 | t::ts=>by simp [jnE,zi ts]
theorem T.ind {p:T->Prop} (h:∀t,(∀u∈t.args,p u)->p t):∀t,p t:=by
 intro t;induction hn:SizeOf.sizeOf t using Nat.strongRecOn generalizing t with
 | ind n ih=>
  subst hn;refine h t λu hu=>ih (SizeOf.sizeOf u) ?_ u rfl;cases t with
  | mk nm us=>
   have:=List.sizeOf_lt_of_mem hu;simp only [T.args] at this;simp only [T.mk.sizeOf_spec];omega
section
variable {P:Program} {tT tS:Nat}
end
structure Ord' where
 syms:List (List UInt8)
 ws:List Int
 var:Int
abbrev jx8 (o:Ord'):List A:=[strs o.syms,ints o.ws,vi o.var]
abbrev od (o:Ord'):A:= .agg [strs o.syms,ints o.ws,vi o.var]
def owf (o:Ord'):Prop:=((∀s∈o.syms,s.length<=9223372036854775807)/\o.syms.length<=9223372036854775807)/\((∀x∈o.ws,I64 x)/\o.ws.length<=9223372036854775807)/\I64 o.var
set_option maxHeartbeats 1000000
def jyH (left n:Int):Int:=if 0<=left - n then left - n else -1
def part {α:Type} (f:α->List A) (z:List A) (xs:List α) (i:Nat):List (List A):=(xs.take i).map f++List.replicate (xs.length - i) z
section
variable {α:Type} {f:α->List A} {z:List A} {xs:List α}
theorem jm6:ZT xs.length z=part f z xs 0:=by simp [part,ZT]
theorem jpR:part f z xs xs.length=xs.map f:=by simp [part]
theorem jif {i:Nat} (h:i<=xs.length):(part f z xs i).length=xs.length:=by simp [part];omega
theorem jpS {i:Nat} (h:i < xs.length):jgf (part f z xs i) i=some z:=by
 unfold jgf part;rw [List.getElem?_append_right (by simp;omega)];simp;rw [List.getElem?_replicate,if_pos (by omega)]
theorem jpT {i:Nat} (h:i < xs.length):JM (part f z xs i) i (f xs[i])=part f z xs (i+1):=by
 unfold JM part;have e:xs.length - i=(xs.length - (i+1))+1:=by omega
 rw [List.set_append_right _ _ (by simp;omega),e,List.replicate_succ]
 simp only [List.length_map,List.length_take,Nat.min_eq_left (Nat.le_of_lt h),Nat.sub_self,List.set_cons_zero];rw [<-List.take_append_getElem h,List.map_append];simp
end
theorem jfw (a b c d:A):JY [a,b] 0 [c,d] = [c,d]:=rfl
theorem jm2 {b n:Nat} (hb:(b:Int) * (n:Int)<=281474976710656) (hn:n<=1048576):jew b (vi n) (vi n)=some n:=by
 show (if _ then _ else _)=_;rw [if_pos (show jtn b n n from ⟨by omega,Int.le_refl _,hb,by omega⟩),Int.toNat_natCast]
theorem jia {k:Nat} {xs:List (List A)} {i:Nat} (h:i<=xs.length):JL k (.sl k xs) (some (vi i)) none=some (.sl k (xs.drop i)):=by
 simp only [JL,qy,Option.bind_some];rw [if_pos ⟨trivial,by omega,by omega,by omega⟩];simp
def jx3 (k:Int):Nat->List Int
 | 0=>[]
 | n+1=>k::jx3 (k+1) n
section
variable {α:Type} {f:α->List A} (M r:List α) (x:α)
end
section
variable (M R:List (List A)) (x y:List A)
end
def jqf:List (List UInt8)->Nat
 | []=>0
 | s::l=>s.length+jqf l
def osz (o:Ord'):Nat:=o.syms.length+jqf o.syms+o.ws.length
theorem y8 {l:List UInt8} {i:Nat} (h:i < l.length):j6 (sv l) (vi i)=some (vy (l[i].toNat:Int)):=by
 show (if _ then _ else _)=_;rw [if_pos ⟨by omega,by simpa using h⟩];simp [List.getD_eq_getElem?_getD,h]
theorem kZ {c:UInt8} {l:List UInt8} :j6 (sv (c::l)) (vi 0)=some (vy (c.toNat:Int)):=y8 (i:=0) (l:=c::l) (by simp)
def KP (lo hi x:Int):Bool:=decide (lo<=x) && decide (x<=hi)
theorem ZN (x a b:Int):G 138 [vi x,vi a,vi b]=some (vb (KP a b x),[]):=by
 rw [jxw];by_cases h:a<=x<;>simp only [jf,h,KP,Bool.true_and,Bool.false_and]
theorem jbA (x a b:Int):G 95 [vi x,vi a,vi b]=some (vb (KP a b x),[]):=by
 rw [g95];by_cases h:a<=x<;>simp only [jf,h,KP,Bool.true_and,Bool.false_and]
def YG (c:UInt8):Bool:=KP 65 90 (c.toNat:Int)
def ZR (c:UInt8):Bool:=KP 97 122 (c.toNat:Int)
def jmm (c:UInt8):Bool:=KP 48 57 (c.toNat:Int)
def yd (c:UInt8):Bool:=ZR c || jmm c
theorem Kk (c:UInt8):G 180 [vy (c.toNat:Int)]=some (vb (YG c),[]):=by
 rw [jxP];by_cases h:65<=(c.toNat:Int)<;>simp only [jf,h,YG,KP,Bool.true_and,Bool.false_and]
theorem Yk (c:UInt8):G 194 [vy (c.toNat:Int)]=some (vb (ZR c),[]):=by
 rw [jxU];by_cases h:97<=(c.toNat:Int)<;>simp only [jf,h,ZR,KP,Bool.true_and,Bool.false_and]
theorem jct (c:UInt8):G 195 [vy (c.toNat:Int)]=some (vb (jmm c),[]):=by
 rw [jxV];by_cases h:48<=(c.toNat:Int)<;>simp only [jf,h,jmm,KP,Bool.true_and,Bool.false_and]
theorem jcI (c:UInt8):G 154 [vy (c.toNat:Int)]=some (vb (yd c),[]):=by
 rw [jxz];by_cases h:97<=(c.toNat:Int)<;>by_cases h2:(c.toNat:Int)<=122<;>by_cases h3:48<=(c.toNat:Int)<;>simp only [jf,h,h2,h3,yd,ZR,jmm,KP,Bool.true_and,Bool.false_and,Bool.or_true,Bool.or_false,Bool.true_or,Bool.false_or]
def jh:List UInt8->Bool
 | []=>false
 | c::r=>YG c && (r.all yd && decide (r.length<=3))
theorem jby (r:List UInt8) (k:Nat) (hk:k<=9):KP 1 (k+1:Nat) (((r.length+1:Nat)):Int)=decide (r.length<=k):=by
 unfold KP;have:decide ((1:Int)<=((r.length+1:Nat):Int))=true:=by simp;omega
 rw [this,Bool.true_and];by_cases h:r.length<=k<;>simp [h]<;>omega
theorem jbj (s:List UInt8) (hs:s.length<=9223372036854775807):∀i,i<=s.length->1<=i->jbY (sv s) (vi (s.length:Nat)) (vi i)=some (vb ((s.drop i).all yd && KP 1 4 (s.length:Nat)),[]):=by
 refine upto (P:=λi=>1<=i->jbY (sv s) (vi (s.length:Nat)) (vi i)=some (vb ((s.drop i).all yd && KP 1 4 (s.length:Nat)),[])) ?_ ?_
 ·intro _;rw [jfM,List.drop_length];have e:=ZN (s.length:Nat) 1 4;simp only [jf,e,Bool.true_and]
 ·intro i hi ih h1;have ih:=ih (by omega);have hn:¬((i:Int)=0):=by omega
  have hp:(0:Int) < (i:Int):=by omega
  have hlt:(i:Int) < ((s.length:Nat):Int):=by omega
  have h5:=jv hi hs;have hx:=y8 hi;have e1:=Yk s[i];have e2:=jct s[i];rw [jfM,jl hi];generalize s[i]=ch at *;rw [List.all_cons];cases h8:ZR ch<;>cases h9:jmm ch<;>rw [h8] at e1<;>rw [h9] at e2<;>simp only [jf,hn,hp,hlt,hx,e1,e2,h5,ih,yd,h8,h9,Bool.true_and,Bool.false_and,Bool.or_true,Bool.or_false,Bool.true_or,Bool.false_or]
theorem Z5 (s:List UInt8) (hs:s.length<=9223372036854775807):G 175 [sv s]=some (vb (jh s),[]):=by
 rw [jxL];show (Ze (sv s)).bind _=_;rw [Zf,Option.bind_some];cases s with
 | nil=>
  rw [jfM];have e:=ZN ((0:Nat):Int) 1 4;simp only [jf,e];rfl
 | cons c r=>
  have key:=jbj (c::r) hs 1 (by simp) (Nat.le_refl _);simp only [List.drop_succ_cons,List.drop_zero] at key;have e':KP 1 4 (((c::r).length:Nat):Int)=decide (r.length<=3):=jby r 3 (by decide);rw [e'] at key;rw [jfM];have h5:js .add false (vi 0) (vi 1)=some (vi ((1:Nat):Int)):=by rw [J9,jH (by decide) (by decide)];rfl
  have h6:(0:Int) < (((c::r).length:Nat):Int):=Int.natCast_pos.2 (Nat.succ_pos _);have e1:=Kk c;generalize ((((c::r).length:Nat)):Int)=n at *;cases hu:YG c<;>rw [hu] at e1<;>simp only [jf,h6,kZ,e1,h5,key,jh,hu,Bool.true_and,Bool.false_and]
theorem jjS (s:List UInt8) (hs:s.length<=9223372036854775807):∀i,i<=s.length->QS (sv s) (vi i)=some (vb ((s.drop i).all yd),[]):=by
 refine upto (P:=λi=>QS (sv s) (vi i)=some (vb ((s.drop i).all yd),[])) ?_ ?_
 ·rw [joR,List.drop_length];simp only [jf]
 ·intro i hi ih;have hlt:(i:Int) < ((s.length:Nat):Int):=by omega
  have h5:=jv hi hs;have hx:=y8 hi;have e1:=jcI s[i];rw [joR,jl hi];generalize s[i]=ch at *;rw [List.all_cons];cases h8:yd ch<;>rw [h8] at e1<;>simp only [jf,hlt,hx,e1,h5,ih,h8,Bool.true_and,Bool.false_and]
theorem J6 (s:List UInt8) (hs:s.length<=9223372036854775807):G 100 [sv s]=some (vb (jh s),[]):=by
 rw [jxa];show (Ze (sv s)).bind _=_;rw [Zf,Option.bind_some];cases s with
 | nil=>
  have e:=jbA ((0:Nat):Int) 1 4;simp only [jf,e];rfl
 | cons c r=>
  have e:=jbA (((c::r).length:Nat):Int) 1 4;have e':KP 1 4 (((c::r).length:Nat):Int)=decide (r.length<=3):=jby r 3 (by decide);rw [e'] at e;have key:=jjS (c::r) hs 1 (by simp);simp only [List.drop_succ_cons,List.drop_zero] at key;have key:QS (sv (c::r)) (vi 1)=some (vb (r.all yd),[]):=key;generalize ((((c::r).length:Nat)):Int)=n at *;by_cases h3:r.length<=3
  ·rw [decide_eq_true h3] at e;by_cases ha:(c.toNat:Int) < 65
   ·have:¬(65<=(c.toNat:Int)):=by omega
    simp only [jf,e,kZ,ha,jh,YG,KP,this,Bool.false_and]
   ·have h65:65<=(c.toNat:Int):=by omega
    by_cases hb:90 < (c.toNat:Int)
    ·have:¬((c.toNat:Int)<=90):=by omega
     simp only [jf,e,kZ,ha,hb,jh,YG,KP,this,Bool.false_and,Bool.and_false]
    ·have:(c.toNat:Int)<=90:=by omega
     simp only [jf,e,kZ,ha,hb,jh,YG,KP,this,h65,key,h3,Bool.true_and,Bool.and_true]
  ·rw [decide_eq_false h3] at e;simp only [jf,e,jh,h3,Bool.and_false]
def Yf (s:List UInt8):List (List UInt8)->Option Nat
 | []=>none
 | x::l=>if s=x then some 0 else (Yf s l).map (· + 1)
def Z1 (i:Nat):Option Nat->Int
 | none=> -1
 | some k=>((i+k:Nat):Int)
theorem jaL (s:List UInt8):∀l,(Yf s l).isSome=l.contains s
 | []=>rfl
 | x::l=>by
  simp only [Yf,List.contains_cons];by_cases h:s=x
  ·simp [h]
  ·have:=jaL s l;simp [h,this]
theorem jfC (s:List UInt8) (l:List (List UInt8)):decide (0<=Z1 0 (Yf s l))=l.contains s:=by
 rw [<-jaL];cases Yf s l<;>simp [Z1]
theorem jjD {s x:List UInt8} {l:List (List UInt8)} {i:Nat} (h:¬s=x):Z1 (i+1) (Yf s l)=Z1 i (Yf s (x::l)):=by
 simp only [Yf,h,if_false];cases Yf s l<;>simp [Z1];omega
theorem jjF (l:List (List UInt8)) (s:List UInt8) (hl:l.length<=9223372036854775807):G 199 [strs l,sv s]=some (vi (Z1 0 (Yf s l)),[]):=by
 have key:=upto (P:=λi=>jfm (strs l) (sv s) (vi (l.length:Nat)) (vi i)=some (vi (Z1 i (Yf s (l.drop i))),[])) (n:=l.length) ?_ ?_ 0 (Nat.zero_le _)
 ·simp only [Int.natCast_zero,List.drop_zero] at key;rw [jxX];simp only [jf,key]
 ·rw [jpc,List.drop_length];simp only [jf,Yf,Z1]
 ·intro i hi ih;have hlt:(i:Int) < ((l.length:Nat):Int):=by omega
  have h5:=jv hi hl;rw [jpc,jl hi];by_cases h:s=l[i]
  ·simp only [jf,hlt,jb hi,h,Yf,Z1,Nat.add_zero]
  ·simp only [jf,hlt,jb hi,h,h5,ih,jjD h]
theorem ZY (l:List (List UInt8)) (s:List UInt8) (hl:l.length<=9223372036854775807):G 166 [strs l,sv s]=some (vb (l.contains s),[]):=by
 have e:=jjF l s hl;rw [jxG];simp only [jf,e,jfC]
theorem jrE (l:List (List UInt8)) (s:List UInt8) (hl:l.length<=9223372036854775807):G 170 [strs l,sv s]=some (vb (l.contains s),[]):=by
 have key:=upto (P:=λi=>jfh (strs l) (sv s) (vi i)=some (vb ((l.drop i).contains s),[])) (n:=l.length) ?_ ?_ 0 (Nat.zero_le _)
 ·simp only [Int.natCast_zero,List.drop_zero] at key;rw [jxK];exact key
 ·rw [jo8,List.drop_length];simp only [jf,List.contains_nil]
 ·intro i hi ih;have hlt:(i:Int) < ((l.length:Nat):Int):=by omega
  have h5:=jv hi hl;rw [jo8,jl hi,List.contains_cons];by_cases h:l[i]=s
  ·have:(s == l[i])=true:=by simp [h]
   simp only [jf,hlt,jb hi,h,this,Bool.true_or];simp
  ·have:(s == l[i])=false:=by simp;exact λe=>h e.symm
   simp only [jf,hlt,jb hi,h,this,h5,ih,Bool.false_or]
def jis:List (List UInt8):=[[116,114,117,101],[102,97,108,115,101],[116,114,117,116,104],[98,111,116,104],[101,105,116,104,101,114],[105,102],[97,108,108],[115,111,109,101]]
def jgr (c:UInt8):Bool:=yd c || decide ((c.toNat:Int)=95)
def zZ:List UInt8->Bool
 | []=>false
 | c::r=>ZR c && (r.all jgr && (decide (r.length<=5) && !jis.contains (c::r)))
theorem jqY (a b:List UInt8):(a == b)=decide (a=b):=by by_cases h:a=b<;>simp [h]
theorem jdS (s:List UInt8) (hs:s.length<=9223372036854775807):∀i,i<=s.length->1<=i->jbX (sv s) (vi (s.length:Nat)) (vi i)=some (vb ((s.drop i).all jgr && (KP 1 6 (s.length:Nat) && !jis.contains s)),[]):=by
 refine upto (P:=λi=>1<=i->jbX (sv s) (vi (s.length:Nat)) (vi i)=some (vb ((s.drop i).all jgr && (KP 1 6 (s.length:Nat) && !jis.contains s)),[])) ?_ ?_
 ·intro _;rw [jfL,List.drop_length];have e:=ZN (s.length:Nat) 1 6;have e2:=ZY jis s (by decide);have e3:G 196 []=some (strs jis,[]):=jxW;cases h:KP 1 6 (s.length:Nat)<;>rw [h] at e<;>simp only [jf,e,e2,e3,h,Bool.true_and,Bool.false_and,List.all_nil]
 ·intro i hi ih h1;have ih:=ih (by omega);have hn:¬((i:Int)=0):=by omega
  have hlt:(i:Int) < ((s.length:Nat):Int):=by omega
  have h5:=jv hi hs;have hx:=y8 hi;have e1:=Yk s[i];have e2:=jct s[i];rw [jfL,jl hi];generalize s[i]=ch at *;rw [List.all_cons];cases h7:decide ((ch.toNat:Int)=95)<;>cases h8:ZR ch<;>cases h9:jmm ch<;>rw [h8] at e1<;>rw [h9] at e2<;>
   simp only [jf,hn,hlt,hx,e1,e2,h5,ih,jgr,yd,h7,h8,h9,Bool.true_and,Bool.false_and,Bool.or_true,Bool.or_false,Bool.true_or,Bool.false_or]
theorem jaO (s:List UInt8) (hs:s.length<=9223372036854775807):G 159 [sv s]=some (vb (zZ s),[]):=by
 rw [jxD];show (Ze (sv s)).bind _=_;rw [Zf,Option.bind_some];cases s with
 | nil=>
  rw [jfL];have e:G 138 [vi ((0:Nat):Int),vi 1,vi 6]=some (vb false,[]):=ZN ((0:Nat):Int) 1 6;simp only [jf,e];rfl
 | cons c r=>
  have key:=jdS (c::r) hs 1 (by simp) (Nat.le_refl _);simp only [List.drop_succ_cons,List.drop_zero] at key;have e':KP 1 6 (((c::r).length:Nat):Int)=decide (r.length<=5):=jby r 5 (by decide);rw [e'] at key;rw [jfL];have h5:js .add false (vi 0) (vi 1)=some (vi ((1:Nat):Int)):=by rw [J9,jH (by decide) (by decide)];rfl
  have h6:(0:Int) < (((c::r).length:Nat):Int):=Int.natCast_pos.2 (Nat.succ_pos _);have e1:=Yk c;generalize ((((c::r).length:Nat)):Int)=n at *;cases hu:ZR c<;>rw [hu] at e1<;>simp only [jf,h6,kZ,e1,h5,key,zZ,hu,Bool.true_and,Bool.false_and]
theorem jdU (s:List UInt8) (hs:s.length<=9223372036854775807):∀i,i<=s.length->yS (sv s) (vi i)=some (vb ((s.drop i).all jgr),[]):=by
 refine upto (P:=λi=>yS (sv s) (vi i)=some (vb ((s.drop i).all jgr),[])) ?_ ?_
 ·rw [joX,List.drop_length];simp only [jf]
 ·intro i hi ih;have hlt:(i:Int) < ((s.length:Nat):Int):=by omega
  have h5:=jv hi hs;have hx:=y8 hi;have e1:=jcI s[i];rw [joX,jl hi];generalize s[i]=ch at *;rw [List.all_cons];cases h7:decide ((ch.toNat:Int)=95)<;>cases h8:yd ch<;>rw [h8] at e1<;>simp only [jf,hlt,hx,e1,h5,ih,jgr,h7,h8,Bool.true_and,Bool.false_and,Bool.or_true,Bool.or_false,Bool.true_or,Bool.false_or]
theorem jaQ (s:List UInt8) (hs:s.length<=9223372036854775807):G 124 [sv s]=some (vb (zZ s),[]):=by
 rw [jxm];show (Ze (sv s)).bind _=_;rw [Zf,Option.bind_some];cases s with
 | nil=>
  have e:G 95 [vi ((0:Nat):Int),vi 1,vi 6]=some (vb false,[]):=jbA ((0:Nat):Int) 1 6;simp only [jf,e];rfl
 | cons c r=>
  have e:=jbA (((c::r).length:Nat):Int) 1 6;have e':KP 1 6 (((c::r).length:Nat):Int)=decide (r.length<=5):=jby r 5 (by decide);rw [e'] at e;have key:=jdU (c::r) hs 1 (by simp);simp only [List.drop_succ_cons,List.drop_zero] at key;have key:yS (sv (c::r)) (vi 1)=some (vb (r.all jgr),[]):=key;generalize ((((c::r).length:Nat)):Int)=n at *;have hres:jis.contains (c::r)=(decide (c::r = [116,114,117,101]) || (decide (c::r = [102,97,108,115,101]) || (decide (c::r = [116,114,117,116,104]) || (decide (c::r = [98,111,116,104]) || (decide (c::r = [101,105,116,104,101,114]) || (decide (c::r = [105,102]) || (decide (c::r = [97,108,108]) || decide (c::r = [115,111,109,101])))))))):=by
   simp only [jis,List.contains_cons,List.contains_nil,Bool.or_false,jqY]
  by_cases h3:r.length<=5
  ·rw [decide_eq_true h3] at e;by_cases ha:(c.toNat:Int) < 97
   ·have:¬(97<=(c.toNat:Int)):=by omega
    simp only [jf,e,kZ,ha,zZ,ZR,KP,this,Bool.false_and]
   ·have h65:97<=(c.toNat:Int):=by omega
    by_cases hb:122 < (c.toNat:Int)
    ·have:¬((c.toNat:Int)<=122):=by omega
     simp only [jf,e,kZ,ha,hb,zZ,ZR,KP,this,Bool.false_and,Bool.and_false]
    ·have h122:(c.toNat:Int)<=122:=by omega
     have e0:zZ (c::r)=(r.all jgr && !jis.contains (c::r)):=by
      simp [zZ,ZR,KP,h65,h122,h3]
     rw [e0,hres];have hx0:=kZ (c:=c) (l:=r);clear hres e0;generalize c::r=s at *;cases q0:decide (s = [116,114,117,101]);rotate_left
     ·simp only [jf,e,hx0,ha,hb,q0,Bool.true_or,Bool.false_or,Bool.and_false]
     cases q1:decide (s = [102,97,108,115,101]);rotate_left
     ·simp only [jf,e,hx0,ha,hb,q0,q1,Bool.true_or,Bool.false_or,Bool.and_false]
     cases q2:decide (s = [116,114,117,116,104]);rotate_left
     ·simp only [jf,e,hx0,ha,hb,q0,q1,q2,Bool.true_or,Bool.false_or,Bool.and_false]
     cases q3:decide (s = [98,111,116,104]);rotate_left
     ·simp only [jf,e,hx0,ha,hb,q0,q1,q2,q3,Bool.true_or,Bool.false_or,Bool.and_false]
     cases q4:decide (s = [101,105,116,104,101,114]);rotate_left
     ·simp only [jf,e,hx0,ha,hb,q0,q1,q2,q3,q4,Bool.true_or,Bool.false_or,Bool.and_false]
     cases q5:decide (s = [105,102]);rotate_left
     ·simp only [jf,e,hx0,ha,hb,q0,q1,q2,q3,q4,q5,Bool.true_or,Bool.false_or,Bool.and_false]
     cases q6:decide (s = [97,108,108]);rotate_left
     ·simp only [jf,e,hx0,ha,hb,q0,q1,q2,q3,q4,q5,q6,Bool.true_or,Bool.false_or,Bool.and_false]
     cases q7:decide (s = [115,111,109,101]);rotate_left
     ·simp only [jf,e,hx0,ha,hb,q0,q1,q2,q3,q4,q5,q6,q7,Bool.true_or,Bool.false_or,Bool.and_false]
     simp only [jf,e,hx0,ha,hb,q0,q1,q2,q3,q4,q5,q6,q7,Bool.true_or,Bool.false_or,Bool.and_true,Bool.or_false,key]
  ·rw [decide_eq_false h3] at e;simp only [jf,e,zZ,h3,Bool.false_and,Bool.and_false]
mutual
def nodes:T->Nat
 | .mk _ us=>1+jA us
def jA:List T->Nat
 | []=>0
 | t::ts=>nodes t+jA ts
end
theorem jN (t:T):nodes t=1+jA t.args:=by cases t;rfl
mutual
def qw:T->Nat
 | .mk _ us=>1+K1 us
def K1:List T->Nat
 | []=>0
 | t::ts=>max (qw t) (K1 ts)
end
theorem jcb (t:T):qw t=1+K1 t.args:=by cases t;rfl
mutual
def zO:T->Bool
 | .mk n us=>if jh n then us.isEmpty else zZ n && (decide (us.length<=4) && Jg us)
def Jg:List T->Bool
 | []=>true
 | t::ts=>zO t && Jg ts
end
theorem ya (t:T):zO t=if jh t.name then t.args.isEmpty else zZ t.name && (decide (t.args.length<=4) && Jg t.args):=by cases t;rfl
theorem zG:∀ts,Jg ts=ts.all zO
 | []=>rfl
 | t::ts=>by rw [Jg,zG ts,List.all_cons]
theorem Qs:∀t:T,nodes t<=1+tsz t:=by
 refine T.ind λt ih=> ?_;have:∀ts:List T,(∀u∈ts,nodes u<=1+tsz u)->jA ts<=ts.length+zB ts:=by
  intro ts;induction ts with
  | nil=>intro _;simp [jA]
  | cons u us ih=>
   intro h;have h1:=h u (by simp);have h2:=ih λv hv=>h v (by simp [hv]);simp only [jA,zB,List.length_cons];omega
 have h:=this t.args ih;rw [jN,j4];omega
theorem jep (t:T):1<=nodes t:=by rw [jN];omega
theorem Yr {ts:List T} {t:T} (h:t∈ts):nodes t<=jA ts:=by
 induction ts with
 | nil=>cases h
 | cons u us ih=>
  simp only [jA];rcases List.mem_cons.1 h with rfl|h
  ·omega
  ·have:=ih h;omega
theorem jjv:∀t:T,qw t<=nodes t:=by
 refine T.ind λt ih=> ?_;have:∀ts:List T,(∀u∈ts,qw u<=nodes u)->K1 ts<=jA ts:=by
  intro ts;induction ts with
  | nil=>intro _;simp [K1]
  | cons u us ih=>
   intro h;have h1:=h u (by simp);have h2:=ih λv hv=>h v (by simp [hv]);simp only [jA,K1];omega
 have h:=this t.args ih;rw [jN,jcb];omega
theorem jno (ts:List T) (hl:ts.length<=9223372036854775807) (hn:jA ts<=1048577) (ih:∀t∈ts,∃r:Nat,G 190 [tm t]=some (vi r,[])/\r<=nodes t/\(nodes t<=30->r=nodes t)/\(30 < nodes t->30 < r)) :
  ∀i,i<=ts.length-> ∀a:Nat,a+jA (ts.drop i)<=1048578-> ∃r:Nat,jfk (vi a) (kr ts) (vi (ts.length:Nat)) (vi i)=some (vi r,[])/\r<=a+jA (ts.drop i)/\(a+jA (ts.drop i)<=30->r=a+jA (ts.drop i))/\(30 < a+jA (ts.drop i)->30 < r):=by
 refine upto ?_ ?_
 ·intro a ha;rw [jjP,List.drop_length];simp only [jf,jA,Nat.add_zero];exact ⟨a,rfl,Nat.le_refl _,λ_=>rfl,λh=>h⟩
 ·intro i hi ih' a ha;have hlt:(i:Int) < ((ts.length:Nat):Int):=by omega
  have h5:=jv hi hl;rw [jl hi] at ha ⊢;simp only [jA] at ha ⊢;obtain ⟨r1,e1,b1,b2,b3⟩:=ih ts[i] (List.getElem_mem _);by_cases hc:(30:Int) < (a:Int)
  ·refine ⟨a,?_,by omega,by omega,by omega⟩;rw [jjP];simp only [jf,hlt,jb hi,jk,hc]
  ·have hk:ck ((a:Int)+(r1:Int))=some (vi ((a+r1:Nat):Int)):=by rw [jH (by omega) (by omega)];rfl
   obtain ⟨r2,e2,c1,c2,c3⟩:=ih' (a+r1) (by omega);refine ⟨r2,?_,by omega,by omega,by omega⟩;rw [jjP];simp only [jf,hlt,jb hi,jk,hc,e1,hk,h5,e2]
theorem size_eq:∀t:T,twf t->tsz t<=1048576-> ∃r:Nat,G 190 [tm t]=some (vi r,[])/\r<=nodes t/\(nodes t<=30->r=nodes t)/\(30 < nodes t->30 < r):=by
 refine T.ind λt ih hw hs=> ?_;obtain ⟨w1,w2,w3⟩:=(zs t).1 hw;have w3:=(zi _).1 w3;have hn:=Qs t;rw [jN] at hn;rw [j4] at hs;obtain ⟨r,h1,h2,h3,h4⟩:=jno t.args w2 (by rw [j4] at hn;omega) (λu hu=>ih u hu (w3 u hu) (by have:=qj hu;omega)) 0 (Nat.zero_le _) 1 (by rw [j4] at hn;simp;omega);simp only [List.drop_zero,Int.natCast_zero,Int.natCast_one] at h1 h2 h3 h4;refine ⟨r,?_,by rw [jN];exact h2,by rw [jN];exact h3,by rw [jN];exact h4⟩;rw [jxQ];simp only [jf,h1]
theorem jmL (n:List UInt8) (most:Int) (hm1: -1048600<=most) (hm:most<=1048576) (ts:List T) (hl:ts.length<=9223372036854775807) (ih:∀t∈ts,∀m:Int,-1048600<=m->m<=1048576-> ∃r:Nat,G 167 [tm t,vi m]=some (vi r,[])/\1<=r/\r<=nodes t/\((nodes t:Int)<=m->r=nodes t)/\(m < nodes t->m < r)) :
  ∀i,i<=ts.length-> ∀a:Nat,1<=a->a+jA (ts.drop i)<=1048578-> ∃r:Nat,jff (vi most) (vi a) (vi i) (sv n) (kr ts)=some (vi r,[])/\1<=r/\r<=a+jA (ts.drop i)/\(((a+jA (ts.drop i):Nat):Int)<=most->r=a+jA (ts.drop i))/\(most < ((a+jA (ts.drop i):Nat):Int)->most < r):=by
 refine upto ?_ ?_
 ·intro a h1 ha;rw [jjO,List.drop_length];simp only [jf,jA,Nat.add_zero];exact ⟨a,rfl,h1,Nat.le_refl _,λ_=>rfl,λh=>h⟩
 ·intro i hi ih' a h1 ha;have hlt:(i:Int) < ((ts.length:Nat):Int):=by omega
  have h5:=jv hi hl;rw [jl hi] at ha ⊢;simp only [jA] at ha ⊢;by_cases hc:(a:Int)<=most
  ·obtain ⟨r1,e1,b0,b1,b2,b3⟩:=ih ts[i] (List.getElem_mem _) (most - a) (by omega) (by omega);have hk0:ck (most - (a:Int))=some (vi (most - a)):=jH (by omega) (by omega);have hk:ck ((a:Int)+(r1:Int))=some (vi ((a+r1:Nat):Int)):=by rw [jH (by omega) (by omega)];rfl
   obtain ⟨r2,e2,c0,c1,c2,c3⟩:=ih' (a+r1) (by omega) (by omega);refine ⟨r2,?_,by omega,by omega,by omega,by omega⟩;rw [jjO];simp only [jf,hlt,jb hi,jk,hc,hk0,e1,hk,h5,e2]
  ·refine ⟨a,?_,h1,by omega,by omega,by omega⟩;rw [jjO];simp only [jf,hlt,hc]
theorem jrG:∀t:T,twf t->tsz t<=1048576-> ∀m:Int,-1048600<=m->m<=1048576-> ∃r:Nat,G 167 [tm t,vi m]=some (vi r,[])/\1<=r/\r<=nodes t/\((nodes t:Int)<=m->r=nodes t)/\(m < nodes t->m < r):=by
 refine T.ind λt ih hw hs m hm1 hm=> ?_;obtain ⟨w1,w2,w3⟩:=(zs t).1 hw;have w3:=(zi _).1 w3;have hn:=Qs t;rw [jN] at hn;obtain ⟨r,h1,h0,h2,h3,h4⟩:=jmL t.name m hm1 hm t.args w2 (λu hu m h1 h2=>ih u hu (w3 u hu) (by have:=qj hu;rw [j4] at hs;omega) m h1 h2) 0 (Nat.zero_le _) 1 (Nat.le_refl _) (by simp;omega);simp only [List.drop_zero,Int.natCast_zero,Int.natCast_one] at h1 h2 h3 h4;refine ⟨r,?_,h0,by rw [jN];exact h2,by rw [jN];exact h3,by rw [jN];exact h4⟩;rw [jxH];simp only [jf,h1]
theorem jjw (ts:List T) (hl:ts.length<=9223372036854775807) (hn:jA ts<=1048577) (ih:∀t∈ts,G 191 [tm t]=some (vi (qw t:Nat),[])) :
  ∀i,i<=ts.length-> ∀a:Nat,a<=1048577->jfl (vi a) (kr ts) (vi (ts.length:Nat)) (vi i)=some (vi ((max a (K1 (ts.drop i))+1:Nat):Int),[]):=by
 refine upto ?_ ?_
 ·intro a ha;have hk:ck ((a:Int)+1)=some (vi ((a+1:Nat):Int)):=by rw [jH (by omega) (by omega)];rfl
  rw [jpb,List.drop_length];simp only [jf,K1,hk,Nat.max_zero]
 ·intro i hi ih' a ha;have hlt:(i:Int) < ((ts.length:Nat):Int):=by omega
  have h5:=jv hi hl;have e1:=ih ts[i] (List.getElem_mem _);have hd:qw ts[i]<=1048577:=Nat.le_trans (jjv _) (Nat.le_trans (Yr (List.getElem_mem hi)) hn);have hmx:(if (a:Int) < ((qw ts[i]:Nat):Int) then ((qw ts[i]:Nat):Int) else (a:Int))=((max a (qw ts[i]):Nat):Int):=by split<;>omega
  have ih':=ih' (max a (qw ts[i])) (by omega);rw [jpb,jl hi];simp only [jf,hlt,jb hi,jk,e1,hmx,h5,ih',K1,Nat.max_assoc]
theorem jos:∀t:T,twf t->tsz t<=1048576->G 191 [tm t]=some (vi (qw t:Nat),[]):=by
 refine T.ind λt ih hw hs=> ?_;obtain ⟨w1,w2,w3⟩:=(zs t).1 hw;have w3:=(zi _).1 w3;have hn:=Qs t;rw [jN] at hn;have h1:=jjw t.args w2 (by omega) (λu hu=>ih u hu (w3 u hu) (by have:=qj hu;rw [j4] at hs;omega)) 0 (Nat.zero_le _) 0 (by omega);simp only [List.drop_zero,Int.natCast_zero,Nat.zero_max] at h1;rw [jxR,jcb,Nat.add_comm];simp only [jf,h1]
theorem jrH (a b:Nat):G 94 [vi a,vi b]=some (vi ((max a b:Nat):Int),[]):=by
 rw [g94];by_cases h:(b:Int) < (a:Int)
 ·simp only [jf,h];rw [Nat.max_eq_left (by omega)]
 ·simp only [jf,h];rw [Nat.max_eq_right (by omega)]
theorem jfO (n:List UInt8) (ts:List T) (hl:ts.length<=9223372036854775807) (hn:jA ts<=1048577) (ih:∀t∈ts,G 168 [tm t]=some (vi (qw t:Nat),[])) :
  ∀i,i<=ts.length-> ∀a:Nat,a<=1048577->jfg (vi a) (vi i) (sv n) (kr ts)=some (vi ((max a (K1 (ts.drop i))+1:Nat):Int),[]):=by
 refine upto ?_ ?_
 ·intro a ha;have hk:ck ((a:Int)+1)=some (vi ((a+1:Nat):Int)):=by rw [jH (by omega) (by omega)];rfl
  rw [jo7,List.drop_length];simp only [jf,K1,hk,Nat.max_zero]
 ·intro i hi ih' a ha;have hlt:(i:Int) < ((ts.length:Nat):Int):=by omega
  have h5:=jv hi hl;have e1:=ih ts[i] (List.getElem_mem _);have e2:=jrH a (qw ts[i]);have hd:qw ts[i]<=1048577:=Nat.le_trans (jjv _) (Nat.le_trans (Yr (List.getElem_mem hi)) hn);have ih':=ih' (max a (qw ts[i])) (by omega);rw [jo7,jl hi];simp only [jf,hlt,jb hi,jk,e1,e2,h5,ih',K1,Nat.max_assoc]
theorem jjR:∀t:T,twf t->tsz t<=1048576->G 168 [tm t]=some (vi (qw t:Nat),[]):=by
 refine T.ind λt ih hw hs=> ?_;obtain ⟨w1,w2,w3⟩:=(zs t).1 hw;have w3:=(zi _).1 w3;have hn:=Qs t;rw [jN] at hn;have h1:=jfO t.name t.args w2 (by omega) (λu hu=>ih u hu (w3 u hu) (by have:=qj hu;rw [j4] at hs;omega)) 0 (Nat.zero_le _) 0 (by omega);simp only [List.drop_zero,Int.natCast_zero,Nat.zero_max] at h1;rw [jxI,jcb,Nat.add_comm];simp only [jf,h1]
def kG (t:T):Bool:=decide (nodes t<=30) && decide (qw t<=8)
def kQ (t:T):Bool:=kG t && zO t
theorem jcv (t:T) (hw:twf t) (hs:tsz t<=1048576):G 157 [tm t]=some (vb (kG t),[]):=by
 obtain ⟨r,h1,h2,h3,h4⟩:=size_eq t hw hs;have hd:=jos t hw hs;rw [jxB];by_cases h:nodes t<=30
 ·have:(r:Int)<=30:=by have:=h3 h;omega
  have e:decide (((qw t:Nat):Int)<=8)=decide (qw t<=8):=by congr 1;exact propext (by omega)
  simp only [jf,h1,hd,this,kG,h,e,Bool.true_and]
 ·have:¬(r:Int)<=30:=by have:=h4 (by omega);omega
  simp only [jf,h1,this,kG,h,Bool.false_and]
theorem jej (t:T) (hw:twf t) (hs:tsz t<=1048576):G 122 [tm t]=some (vb (kG t),[]):=by
 obtain ⟨r,h1,h0,h2,h3,h4⟩:=jrG t hw hs 30 (by decide) (by decide);have hd:=jjR t hw hs;rw [jxk];by_cases h:nodes t<=30
 ·have:(r:Int)<=30:=by have:=h3 (by omega);omega
  have e:decide (((qw t:Nat):Int)<=8)=decide (qw t<=8):=by congr 1;exact propext (by omega)
  simp only [jf,h1,hd,this,kG,h,e,Bool.true_and]
 ·have:¬(r:Int)<=30:=by have:=h4 (by omega);omega
  simp only [jf,h1,this,kG,h,Bool.false_and]
theorem jbh {f:FuncId} {caps:List A} (hsig:K.pureF f=true) (p:T->Bool) (ts:List T) (hl:ts.length<=9223372036854775807) (h:∀t∈ts,G f (tm t::caps)=some (vb (p t),[])) :
  ∃r:Int,G 215 [kr ts,.fn f caps]=some (vi r,[])/\decide (0<=r)=ts.any p:=by
 have key:=upto (P:=λi=>∃r:Int,jfn (kr ts) (.fn f caps) (vi (ts.length:Nat)) (vi i)=some (vi r,[])/\decide (0<=r)=(ts.drop i).any p) (n:=ts.length) ?_ ?_ 0 (Nat.zero_le _)
 ·obtain ⟨r,h1,h2⟩:=key;simp only [Int.natCast_zero,List.drop_zero] at h1 h2;refine ⟨r,?_,h2⟩;rw [jxY];simp only [jf,h1]
 ·refine ⟨-1,?_,by simp⟩;rw [jpd];simp only [jf]
 ·intro i hi ih;obtain ⟨r,h1,h2⟩:=ih;have hlt:(i:Int) < ((ts.length:Nat):Int):=by omega
  have h5:=jv hi hl;have e1:=h ts[i] (List.getElem_mem _);rw [jpd,jl hi,List.any_cons];cases hp:p ts[i]<;>rw [hp] at e1
  ·refine ⟨r,?_,by rw [h2,Bool.false_or]⟩;simp only [jf,hlt,jb hi,jk,JZ hsig,List.cons_append,List.nil_append,e1,h5,h1]
  ·refine ⟨i,?_,by simp⟩;simp only [jf,hlt,jb hi,jk,JZ hsig,List.cons_append,List.nil_append,e1]
theorem jca {f:FuncId} {caps:List A} (hsig:K.pureF f=true) (p:T->Bool) (ts:List T) (hl:ts.length<=9223372036854775807) (h:∀t∈ts,G f (tm t::caps)=some (vb (p t),[])) :
  G 192 [kr ts,.fn f caps]=some (vb (ts.any p),[]):=by
 obtain ⟨r,h1,h2⟩:=jbh hsig p ts hl h;rw [jxS];simp only [jf,h1,h2]
theorem jgQ (p:T->Bool) (ts:List T):(ts.any λt=> !p t)=!ts.all p:=by
 induction ts with
 | nil=>rfl
 | cons t ts ih=>rw [List.any_cons,List.all_cons,ih];cases p t<;>rfl
theorem K3:∀t:T,twf t->G 158 [tm t]=some (vb (zO t),[]):=by
 refine T.ind λt ih hw=> ?_;obtain ⟨w1,w2,w3⟩:=(zs t).1 hw;have w3:=(zi _).1 w3;have e1:=Z5 t.name w1;have e2:=jaO t.name w1;have e3:=jca (f:=193) (caps:=[]) rfl (λu=> !zO u) t.args w2 (λu hu=>by
  have:=ih u hu (w3 u hu);rw [jxT];simp only [jf,this])
 rw [jgQ,<-zG] at e3;rw [jxC,ya];have e4:decide (((t.args.length:Nat):Int)=0)=t.args.isEmpty:=by cases t.args<;>simp;omega
 have e5:decide (((t.args.length:Nat):Int)<=4)=decide (t.args.length<=4):=by congr 1;exact propext (by omega)
 cases hv:jh t.name<;>rw [hv] at e1
 ·cases hy:zZ t.name<;>rw [hy] at e2
  ·simp only [jf,e1,e2,Bool.false_and]
  ·cases ha:decide (t.args.length<=4)<;>rw [ha] at e5
   ·simp only [jf,e1,e2,e5,Bool.false_and,Bool.true_and]
   ·simp only [jf,e1,e2,e5,e3,Bool.true_and,Bool.not_not]
 ·simp only [jf,e1,e4]
theorem Ym:∀t:T,twf t->G 123 [tm t]=some (vb (zO t),[]):=by
 refine T.ind λt ih hw=> ?_;obtain ⟨w1,w2,w3⟩:=(zs t).1 hw;have w3:=(zi _).1 w3;have e1:=J6 t.name w1;have e2:=jaQ t.name w1;have key:=upto (P:=λi=>je8 (vi i) (sv t.name) (kr t.args)=some (vb (Jg (t.args.drop i)),[])) (n:=t.args.length) ?_ ?_ 0 (Nat.zero_le _)
 ·simp only [Int.natCast_zero,List.drop_zero] at key;rw [jxl,ya];have e4:decide (((t.args.length:Nat):Int)=0)=t.args.isEmpty:=by cases t.args<;>simp;omega
  cases hv:jh t.name<;>rw [hv] at e1
  ·cases hy:zZ t.name<;>rw [hy] at e2
   ·simp only [jf,e1,e2,Bool.false_and]
   ·by_cases ha:4 < ((t.args.length:Nat):Int)
    ·have:¬t.args.length<=4:=by omega
     simp only [jf,e1,e2,ha,this,Bool.false_and,Bool.and_false]
    ·have:t.args.length<=4:=by omega
     simp only [jf,e1,e2,ha,this,key,Bool.true_and]
  ·simp only [jf,e1,e4]
 ·rw [joW,List.drop_length];simp only [jf,Jg]
 ·intro i hi ih';have hlt:(i:Int) < ((t.args.length:Nat):Int):=by omega
  have h5:=jv hi w2;have e3:=ih t.args[i] (List.getElem_mem _) (w3 _ (List.getElem_mem _));rw [joW,jl hi,Jg];cases hp:zO t.args[i]<;>rw [hp] at e3
  ·simp only [jf,hlt,jb hi,jk,e3,Bool.false_and]
  ·simp only [jf,hlt,jb hi,jk,e3,h5,ih',Bool.true_and]
theorem K6 (t:T) (hw:twf t) (hs:tsz t<=1048576):G 160 [tm t]=some (vb (kQ t),[]):=by
 have e1:=jcv t hw hs;have e2:=K3 t hw;rw [jxE,kQ];cases h:kG t<;>rw [h] at e1<;>simp only [jf,e1,e2,Bool.true_and,Bool.false_and]
theorem jmB (t:T) (hw:twf t) (hs:tsz t<=1048576):G 125 [tm t]=some (vb (kQ t),[]):=by
 have e1:=jej t hw hs;have e2:=Ym t hw;rw [jxn,kQ];cases h:kG t<;>rw [h] at e1<;>simp only [jf,e1,e2,Bool.true_and,Bool.false_and]
def jw6 (o:Ord') (i:Nat):Bool:=zZ (o.syms.getD i []) && (!(o.syms.take i).contains (o.syms.getD i []) && KP o.var 100 (o.ws.getD i 0))
def jkB (o:Ord'):Bool:=KP 1 12 (o.syms.length:Nat) && (decide (o.ws.length=o.syms.length) && (KP 1 100 o.var && (List.range o.syms.length).all (jw6 o)))
mutual
def jrb (l:List (List UInt8)):T->Bool
 | .mk n us=>(jh n || l.contains n) && jsz l us
def jsz (l:List (List UInt8)):List T->Bool
 | []=>true
 | t::ts=>jrb l t && jsz l ts
end
theorem zH {t:T} (h:zO t=true):∀u∈t.args,zO u=true:=by
 rw [ya] at h;intro u hu;split at h
 ·rw [List.isEmpty_iff.1 h] at hu;cases hu
 ·simp only [Bool.and_eq_true] at h;rw [zG] at h;exact List.all_eq_true.1 h.2.2 u hu
theorem jpu {t:T} (h:zO t=true):∃c r,t.name=c::r/\jh t.name=YG c/\(YG c=false->zZ t.name=true):=by
 rw [ya] at h;cases hn:t.name with
 | nil=>rw [hn] at h;simp [jh,zZ] at h
 | cons c r=>
  refine ⟨c,r,rfl,?_,?_⟩
  ·rw [hn] at h;cases hu:YG c with
   | false=>simp [jh,hu]
   | true=>
    cases hv:jh (c::r) with
    | true=>rfl
    | false=>
     rw [hv] at h;have:ZR c=false:=by
      simp only [YG,KP,ZR,Bool.and_eq_true,decide_eq_true_eq] at hu ⊢;have:¬(97<=(c.toNat:Int)):=by omega
      simp [this]
     simp [zZ,this] at h
  ·intro hu;rw [hn] at h;have:jh (c::r)=false:=by simp [jh,hu]
   rw [this] at h;simp at h;exact h.1
theorem jcx (t:T) (h:zO t=true):G 141 [tm t]=some (vb (jh t.name),[]):=by
 obtain ⟨c,r,hn,hv,_⟩:=jpu h;have e1:=Kk c;rw [<-hv] at e1;rw [jt5];have hx:j6 (sv t.name) (vi 0)=some (vy (c.toNat:Int)):=by rw [hn];exact kZ
 simp only [jf,hx,e1]
def good (o:Ord') (t:T):Bool:=kQ t && jrb o.syms t
def jyj (o:Ord') (n:List UInt8):Int:=match Yf n o.syms with|some k=>o.ws.getD k 0|none=>0
mutual
def wt (o:Ord'):T->Int
 | .mk n us=>(if jh n then o.var else jyj o n)+wtL o us
def wtL (o:Ord'):List T->Int
 | []=>0
 | t::ts=>wt o t+wtL o ts
end
def juD (o:Ord') (t:T):A:=if jkB o && good o t then .tup [vi (wt o t),vb true] else .tup [vi 0,vb false]
noncomputable def dq {α:Type} (a b:α):Bool:=@decide (a=b) (Classical.propDecidable _)
theorem yK {α:Type} {a b:α} :dq a b=true↔a=b:=by unfold dq;exact @decide_eq_true_iff _ (Classical.propDecidable _)
theorem jg7 {α:Type} {a b:α} :dq a b=false↔ ¬a=b:=by unfold dq;exact @decide_eq_false_iff_not _ (Classical.propDecidable _)
theorem ZC {α:Type} (a:α):dq a a=true:=yK.2 rfl
theorem jld {α:Type} (a b:α) (l r:List α):dq (a::l) (b::r)=(dq a b && dq l r):=by
 rw [Bool.eq_iff_iff,Bool.and_eq_true,yK,yK,yK,List.cons.injEq]
theorem jvx (s t:T):dq s t=(decide (s.name=t.name) && dq s.args t.args):=by
 cases s with
 | mk n us=>cases t with
  | mk m vs=>rw [Bool.eq_iff_iff,Bool.and_eq_true,yK,yK,decide_eq_true_iff,T.mk.injEq];rfl
theorem jou {α:Type} {a b:List α} (h:¬a.length=b.length):dq a b=false:=jg7.2 λe=>h (by rw [e])
theorem jbg (ts us:List T) (hl:ts.length<=9223372036854775807) (hlen:ts.length=us.length) (ih:∀t∈ts,∀u∈us,G 140 [tm t,tm u]=some (vb (dq t u),[])) :
  ∀i,i<=ts.length->jfj (kr us) (.fn 140 []) (kr ts) (vi (ts.length:Nat)) (vi i)=some (vb (dq (ts.drop i) (us.drop i)),[]):=by
 refine upto ?_ ?_
 ·rw [jpa,List.drop_length,hlen,List.drop_length,ZC];simp only [jf]
 ·intro i hi ih';have hlt:(i:Int) < ((ts.length:Nat):Int):=by omega
  have hi2:i < us.length:=by omega
  have h5:=jv hi hl;have e1:=ih ts[i] (List.getElem_mem _) us[i] (List.getElem_mem _);rw [jpa,jl hi,jl hi2,jld];cases hp:dq ts[i] us[i]<;>rw [hp] at e1
  ·simp only [jf,hlt,jb hi,jb hi2,jk,JZ (f:=140) rfl,List.append_nil,e1,Bool.false_and]
  ·simp only [jf,hlt,jb hi,jb hi2,jk,JZ (f:=140) rfl,List.append_nil,e1,h5,ih',Bool.true_and]
theorem JG:∀s:T,twf s-> ∀t:T,twf t->G 140 [tm s,tm t]=some (vb (dq s t),[]):=by
 refine T.ind λs ih hw t hw'=> ?_;obtain ⟨w1,w2,w3⟩:=(zs s).1 hw;have w3:=(zi _).1 w3;obtain ⟨v1,v2,v3⟩:=(zs t).1 hw';have v3:=(zi _).1 v3;rw [jxx,jvx];by_cases hn:s.name=t.name
 ·have e:G 179 [kr s.args,kr t.args,.fn 140 []]=some (vb (dq s.args t.args),[]):=by
   rw [jxO];by_cases hlen:s.args.length=t.args.length
   ·have key:=jbg s.args t.args w2 hlen (λa ha b hb=>ih a ha (w3 a ha) b (v3 b hb)) 0 (Nat.zero_le _);simp only [Int.natCast_zero,List.drop_zero] at key;rw [hlen] at key;simp only [jf,hlen,key]
   ·have hlen':¬((s.args.length:Nat):Int)=((t.args.length:Nat):Int):=by omega
    simp only [jf,hlen',jou hlen]
  simp only [jf,hn,e,Bool.true_and]
 ·simp only [jf,hn,Bool.false_and]
def rk (o:Ord') (t:T):Int:=Z1 0 (Yf t.name o.syms)
def jvv (a b:Int):Int:=if a < b then -1 else if b < a then 1 else 0
def jlQ (o:Ord') (s t:T):Int:=if rk o s=rk o t then jvv (s.args.length:Nat) (t.args.length:Nat) else jvv (rk o s) (rk o t)
noncomputable def fd:List T->List T->Option (T × T)
 | a::l,b::r=>if dq a b=true then fd l r else some (a,b)
 | _,_=>none
def zT:A:= .agg [sv [],.sl 2 []]
noncomputable def fdR (s t:T):A:=match fd s.args t.args with|some (a,b)=> .tup [tm a,tm b,vb true]|none=> .tup [zT,zT,vb false]
noncomputable def jmK (o:Ord'):Nat->T->T->Bool
 | 0,_,_=>false
 | n+1,s,t=>if jh s.name then false else if (s.args.any λa=>dq a t || jmK o n a t) then true else if jh t.name then false
   else if (t.args.any λb=> !jmK o n s b) then false else if 0 < jlQ o s t then true else if jlQ o s t < 0 then false
   else match fd s.args t.args with|some (a,b)=>jmK o n a b|none=>false
def jsx (e g l:Bool):Int:=if e then 1 else if g then 2 else if l then 3 else 0
noncomputable def jtW (o:Ord') (s t:T):Int:=jsx (dq s t) (jmK o (nodes s+nodes t) s t) (jmK o (nodes s+nodes t) t s)
noncomputable def jtZ (o:Ord') (s t:T):A:=if jkB o && (good o s && good o t) then .tup [vi (jtW o s t),vb true] else .tup [vi 0,vb false]
mutual
def kP:T->List (List UInt8)
 | .mk n us=>if jh n then [n] else j8 us
def j8:List T->List (List UInt8)
 | []=>[]
 | t::ts=>kP t++j8 ts
end
theorem kS (t:T):kP t=if jh t.name then [t.name] else j8 t.args:=by cases t;rfl
def jwN (l:List (List UInt8)) (vs:List (List UInt8)) (k:Nat) (r:List (List UInt8)):Prop:=(∀n,n∈r↔n∈l\/n∈vs)/\r.length<=l.length+k
mutual
def cnt (n:List UInt8):T->Nat
 | .mk m us=>(if m=n then 1 else 0)+jvw n us
def jvw (n:List UInt8):List T->Nat
 | []=>0
 | t::ts=>cnt n t+jvw n ts
end
def bal (s t:T):Bool:=(kP t).all λn=>decide (cnt n t<=cnt n s)
noncomputable def jrB (o:Ord'):Nat->T->T->Bool
 | 0,_,_=>false
 | n+1,s,t=>if bal s t then (if wt o s=wt o t then (if jh s.name || jh t.name then false else if jlQ o s t=0 then (match fd s.args t.args with|some (a,b)=>jrB o n a b|none=>false) else decide (0 < jlQ o s t)) else decide (wt o t < wt o s)) else false
noncomputable def jtV (o:Ord') (s t:T):Int:=jsx (dq s t) (jrB o (nodes s+nodes t) s t) (jrB o (nodes s+nodes t) t s)
noncomputable def jtY (o:Ord') (s t:T):A:=if jkB o && (good o s && good o t) then .tup [vi (jtV o s t),vb true] else .tup [vi 0,vb false]
def jft (t:T):T:=t.args.getD 0 (.mk [] [])
def jjh (t:T):T:=t.args.getD 1 (.mk [] [])
def jhb (t:T):Bool:=decide (t.args.length=2) && (kG t && (zO (jft t) && zO (jjh t)))
theorem QZ {t:T} (hl:t.args.length=2):ju 2 (kr t.args) (vi 0)=some (.elt (jy (jft t)) 0)/\ju 2 (kr t.args) (vi 1)=some (.elt (jy (jjh t)) 0)/\jft t∈t.args/\jjh t∈t.args:=by
 have e0:jft t=t.args[0]:=by unfold jft;simp [List.getD_eq_getElem?_getD,hl]
 have e1:jjh t=t.args[1]:=by unfold jjh;simp [List.getD_eq_getElem?_getD,hl]
 rw [e0,e1];exact ⟨jb (i:=0) (by omega),jb (i:=1) (by omega),List.getElem_mem _,List.getElem_mem _⟩
theorem jjQ (t:T) (hw:twf t) (hs:tsz t<=1048576) (he:t.name = [61]):G 76 [tm t]=some (vb (jhb t),[]):=by
 obtain ⟨w1,w2,w3⟩:=(zs t).1 hw;have w3:=(zi _).1 w3;have het:(t.name = [61])=True:=eq_true he;unfold jhb;rw [g76];by_cases hl:t.args.length=2;rotate_left
 ·have hl':¬((t.args.length:Nat):Int)=2:=by omega
  simp only [jf,het,hl',hl,Bool.false_and]
 have hl':((t.args.length:Nat):Int)=2:=by omega
 rw [decide_eq_true hl,Bool.true_and];obtain ⟨i0,i1,ma,mb⟩:=QZ hl;have p1:=jej t hw hs;have p2:=Ym _ (w3 _ ma);have p3:=Ym _ (w3 _ mb);cases h1:kG t<;>rw [h1] at p1
 ·simp only [jf,het,hl',p1,Bool.false_and,Bool.and_false]
 ·cases h2:zO (jft t)<;>rw [h2] at p2
  ·simp only [jf,het,hl',p1,i0,jk,p2,Bool.false_and,Bool.and_false]
  ·simp only [jf,het,hl',p1,i0,i1,jk,p2,p3,Bool.true_and]
theorem Z4 (t:T):G 156 [tm t]=some (vb (decide (t.name = [61])),[]):=by
 rw [jxA];simp only [jf]
theorem jbi (t:T) (hw:twf t) (hs:tsz t<=1048576) (he:t.name = [61]):G 114 [tm t]=some (vb (jhb t),[]):=by
 obtain ⟨w1,w2,w3⟩:=(zs t).1 hw;have w3:=(zi _).1 w3;have q0:=Z4 t;rw [decide_eq_true he] at q0;unfold jhb;rw [jvE];by_cases hl:t.args.length=2;rotate_left
 ·have hl':¬((t.args.length:Nat):Int)=2:=by omega
  simp only [jf,q0,hl',hl,Bool.false_and]
 have hl':((t.args.length:Nat):Int)=2:=by omega
 rw [decide_eq_true hl,Bool.true_and];obtain ⟨i0,i1,ma,mb⟩:=QZ hl;have p1:=jcv t hw hs;have p2:=K3 _ (w3 _ ma);have p3:=K3 _ (w3 _ mb);cases h1:kG t<;>rw [h1] at p1
 ·simp only [jf,q0,hl',p1,Bool.false_and,Bool.and_false]
 ·cases h2:zO (jft t)<;>rw [h2] at p2
  ·simp only [jf,q0,hl',p1,i0,jk,p2,Bool.false_and,Bool.and_false]
  ·simp only [jf,q0,hl',p1,i0,i1,jk,p2,p3,Bool.true_and]
def jy6 (o:Ord') (t:T):Bool:=decide (t.name = [61]) && (jhb t && (jrb o.syms (jft t) && jrb o.syms (jjh t)))
theorem yN (n:List UInt8) (us:List T):tsz (.mk n us)=n.length+us.length+zB us:=rfl
theorem juG:∀t:T,tsz t<=1048576->twf t:=by
 refine T.ind λt ih h=> ?_;have h':=h;rw [j4] at h';exact (zs t).2 ⟨by omega,by omega,(zi _).2 λu hu=>ih u hu (by have:=qj hu;omega)⟩
theorem jj6 {n:Nat} (h:n<=4194304):jO n 40=true:=by
 unfold jO;exact decide_eq_true ⟨by omega,by omega⟩
theorem jf9 (t:T):tsz t<=1048576->G 102 [tm t]=some (tm t,[]):=by
 refine T.ind (p:=λt=>tsz t<=1048576->G 102 [tm t]=some (tm t,[])) ?_ t;intro t ih h;rw [j4] at h;have key:=(upto (P:=λi=>je6 (vi i) (sv t.name) (kr t.args) (sv []) (sv t.name) [] ((t.args.take i).map jy)=some (tm t,[])) (n:=t.args.length) ?_ ?_ 0 (Nat.zero_le _))
 ·rw [jxc];simp only [Int.natCast_zero,List.take_zero,List.map_nil] at key;simp only [jf,key]
 ·rw [joT,List.take_length];simp only [jf]
 ·intro i hi ih';have hlt:(i:Int) < ((t.args.length:Nat):Int):=by omega
  have h5:=jv hi (by show t.args.length<=9223372036854775807;omega)
  have e1:=ih t.args[i] (List.getElem_mem _) (by have:=qj (List.getElem_mem hi);omega)
  have hf:jO (i+1) 40=true:=jj6 (by omega);have hl:((t.args.take i).map jy).length=i:=by rw [List.length_map,List.length_take];omega
  have ha:kM ((t.args.take i).map jy) [[sv t.args[i].name,kr t.args[i].args]]=(t.args.take (i+1)).map jy:=by
   rw [show [sv t.args[i].name,kr t.args[i].args]=jy t.args[i] from (kg _).symm,List.take_add_one,List.getElem?_eq_getElem hi,List.map_append];rfl
  rw [joT];simp only [jf,hlt,jb hi,jk,e1,hl,hf,ha,h5,ih',List.length_take,Nat.min_eq_left (Nat.le_of_lt hi)]
def Lp (o:Ord') (s t:T):Prop:=jmK o (nodes s+nodes t) s t=true
def Kp (o:Ord') (s t:T):Prop:=jrB o (nodes s+nodes t) s t=true
theorem jqt {n:List UInt8} :∀t:T,n∈kP t->jh n=true:=by
 refine T.ind λt ih h=> ?_;rw [kS] at h;cases hv:jh t.name
 ·rw [hv,if_neg Bool.false_ne_true] at h;have:∀ts:List T,(∀u∈ts,n∈kP u->jh n=true)->n∈j8 ts->jh n=true:=by
   intro ts;induction ts with
   | nil=>intro _ h;simp [j8] at h
   | cons u us ih2=>
    intro h h2;simp only [j8,List.mem_append] at h2;rcases h2 with h2|h2
    ·exact h u (by simp) h2
    ·exact ih2 (λv hv=>h v (by simp [hv])) h2
  exact this t.args ih h
 ·rw [hv,if_pos rfl,List.mem_singleton] at h;rw [h];exact hv
def rbI (c:Int):Int:=if c=2 then 3 else if c=3 then 2 else c
open Classical in
open Classical in
def look:List (List UInt8 × T)->List UInt8->Option T
 | [],_=>none
 | p::u,n=>if p.1=n then some p.2 else look u n
def jiF (u:List (List UInt8 × T)) (n:List UInt8):T:=(look u n).getD (.mk n [])
mutual
def sub (u:List (List UInt8 × T)):T->T
 | .mk n us=>if jh n then jiF u n else .mk n (jnv u us)
def jnv (u:List (List UInt8 × T)):List T->List T
 | []=>[]
 | t::ts=>sub u t::jnv u ts
end
theorem jiG (u:List (List UInt8 × T)):∀ts:List T,jnv u ts=ts.map (sub u)
 | []=>rfl
 | t::ts=>by rw [jnv,jiG u ts,List.map_cons]
theorem jbM {u:List (List UInt8 × T)} {t:T} (h:jh t.name=true):sub u t=jiF u t.name:=by
 obtain ⟨n,us⟩:=t;have h:jh n=true:=h;show (if jh n then jiF u n else T.mk n (jnv u us))=_;rw [if_pos h];rfl
theorem QI {u:List (List UInt8 × T)} {t:T} (h:jh t.name=false):sub u t = .mk t.name (t.args.map (sub u)):=by
 obtain ⟨n,us⟩:=t;have h:jh n=false:=h;show (if jh n then jiF u n else T.mk n (jnv u us))=_;rw [h,if_neg Bool.false_ne_true,jiG];rfl
theorem QJ {u:List (List UInt8 × T)} {t:T} (h:jh t.name=false):(sub u t).name=t.name:=by rw [QI h];rfl
theorem QH {u:List (List UInt8 × T)} {t:T} (h:jh t.name=false):(sub u t).args=t.args.map (sub u):=by rw [QI h];rfl
theorem Zs {t:T} (h:zO t=true) (hv:jh t.name=true):t.args = []:=by
 rw [ya,hv,if_pos rfl] at h;exact List.isEmpty_iff.1 h
def jyi (f:List UInt8->Int):List (List UInt8)->Int
 | []=>0
 | x::l=>f x+jyi f l
abbrev bc (p:List UInt8 × T):List A:=[sv p.1,sv p.2.name,.sl 2 (p.2.args.map jy)]
abbrev sbs (u:List (List UInt8 × T)):A:= .sl 3 (u.map bc)
abbrev sb (u:List (List UInt8 × T)):A:= .agg [sbs u]
theorem jj8 (p:List UInt8 × T):jP 2 (.elt (bc p) 1)=some (tm p.2):=rfl
theorem y9 (p:List UInt8 × T):zn (.elt (bc p) 0)=some (sv p.1):=rfl
theorem Jx (p:List UInt8 × T) (n:Nat):qL (.elt (bc p) 0) n=some (.elt (bc p) n):=by rw [Jh,Nat.zero_add]
def Sz (z:Nat) (u:List (List UInt8 × T)):Prop:=u.length<=z/\ ∀p∈u,p.1.length<=z/\tsz p.2<=z
theorem jmD (u:List (List UInt8 × T)) (hl:u.length<=1048576) (n:List UInt8):(look u n=none/\G 101 [sb u,sv n]=some (vi (-1),[]))\/ ∃k,∃h:k < u.length,look u n=some u[k].2/\G 101 [sb u,sv n]=some (vi (k:Nat),[]):=by
 have key:=upto (P:=λi=>(look (u.drop i) n=none/\jbU (sv n) (vi i) (sbs u)=some (vi (-1),[]))\/ ∃k,∃h:k < u.length,look (u.drop i) n=some u[k].2/\jbU (sv n) (vi i) (sbs u)=some (vi (k:Nat),[])) (n:=u.length) ?_ ?_ 0 (Nat.zero_le _)
 ·rw [jxb];exact key
 ·left;rw [List.drop_length,joS];exact ⟨rfl,by simp only [jf]⟩
 ·intro i hi ih;have hlt:(i:Int) < ((u.length:Nat):Int):=by omega
  have h5:=jv hi (by show u.length<=9223372036854775807;omega)
  rw [joS,jl hi,look];by_cases he:u[i].1=n
  ·right;rw [if_pos he];exact ⟨i,hi,rfl,by simp only [jf,hlt,jb hi,Jx,y9,he]⟩
  ·rw [if_neg he];rcases ih with ⟨h1,h2⟩|⟨k,hk,h1,h2⟩
   ·left;exact ⟨h1,by simp only [jf,hlt,jb hi,Jx,y9,he,h5,h2]⟩
   ·right;exact ⟨k,hk,h1,by simp only [jf,hlt,jb hi,Jx,y9,he,h5,h2]⟩
theorem jjT (u:List (List UInt8 × T)) (hu:Sz 1048576 u) (t:T):tsz t<=1048576->G 50 [sb u,tm t]=some (tm (sub u t),[]):=by
 refine T.ind (p:=λt=>tsz t<=1048576->G 50 [sb u,tm t]=some (tm (sub u t),[])) ?_ t;intro t ih hs;have h:=hs;rw [j4] at h;have e1:=J6 t.name (by show t.name.length<=9223372036854775807;omega);rw [g50];cases hv:jh t.name<;>rw [hv] at e1
 ·have key:=(upto (P:=λi=>jkS (vi i) (sbs u) (sv t.name) (kr t.args) (sv []) (sv t.name) [] (((t.args.map (sub u)).take i).map jy)=some (tm (sub u t),[])) (n:=t.args.length) ?_ ?_ 0 (Nat.zero_le _))
  ·simp only [Int.natCast_zero,List.take_zero,List.map_nil] at key;simp only [jf,e1,key]
  ·rw [jsQ,List.take_of_length_le (by rw [List.length_map];omega),QI hv]
   simp only [jf];rfl
  ·intro i hi ih';have hlt:(i:Int) < ((t.args.length:Nat):Int):=by omega
   have h5:=jv hi (by show t.args.length<=9223372036854775807;omega)
   have e2:=ih t.args[i] (List.getElem_mem _) (by have:=qj (List.getElem_mem hi);omega)
   have hf:jO (i+1) 40=true:=jj6 (by omega);have hi2:i < (t.args.map (sub u)).length:=by rw [List.length_map];exact hi
   have hl:(((t.args.map (sub u)).take i).map jy).length=i:=by rw [List.length_map,List.length_take,List.length_map];omega
   have ha:kM (((t.args.map (sub u)).take i).map jy) [[sv (sub u t.args[i]).name,kr (sub u t.args[i]).args]]=((t.args.map (sub u)).take (i+1)).map jy:=by
    rw [show [sv (sub u t.args[i]).name,kr (sub u t.args[i]).args]=jy (sub u t.args[i]) from (kg _).symm,List.take_add_one,List.getElem?_eq_getElem hi2,List.map_append,List.getElem_map];rfl
   generalize ((t.args.map (sub u)).take i).map jy=R at *;rw [jsQ];simp only [jf,hlt,jb hi,jk,e2,hl,hf,ha,h5,ih']
 ·rw [jbM hv,jiF];rcases jmD u hu.1 t.name with ⟨h1,h2⟩|⟨k,hk,h1,h2⟩
  ·rw [h1];simp only [jf,e1,h2];rfl
  ·rw [h1];have hm:=hu.2 _ (List.getElem_mem hk);have e3:=jf9 u[k].2 hm.2;have hk0:(0:Int)<=((k:Nat):Int):=by omega
   simp only [jf,e1,h2,hk0,jb hk,Jx,jj8,e3,Option.getD_some]
theorem jhL:∀ {u:List (List UInt8 × T)} {n:List UInt8} {r:T},look u n=some r-> ∃p∈u,p.2=r
 | p::u,n,r,h=>by
  rw [look] at h;by_cases e:p.1=n
  ·rw [if_pos e] at h;cases h;exact ⟨p,by simp,rfl⟩
  ·rw [if_neg e] at h;obtain ⟨q,hq,h⟩:=jhL h;exact ⟨q,by simp [hq],h⟩
theorem jqg {u:List (List UInt8 × T)} {Z:Nat} (hZ:1<=Z) (hu:∀p∈u,tsz p.2<=Z):∀t:T,tsz (sub u t)<=tsz t * Z:=by
 refine T.ind λt ih=> ?_;have hmul:∀n:Nat,n<=n * Z:=λn=>Nat.le_mul_of_pos_right n hZ;cases hv:jh t.name
 ·have hL:∀ts:List T,(∀v∈ts,tsz (sub u v)<=tsz v * Z)->zB (ts.map (sub u))<=zB ts * Z:=by
   intro ts;induction ts with
   | nil=>intro _;simp [zB]
   | cons v vs ih2=>
    intro h;have h1:=h v (by simp);have h2:=ih2 λw hw=>h w (by simp [hw]);simp only [List.map_cons,zB,Nat.add_mul];omega
  have h1:=hL t.args ih;have h2:=hmul t.name.length;have h3:=hmul t.args.length;rw [j4 t,j4 (sub u t),QJ hv,QH hv,List.length_map,Nat.add_mul,Nat.add_mul];omega
 ·rw [jbM hv,jiF];have h1:1<=t.name.length:=by
   cases hn:t.name with
   | nil=>rw [hn] at hv;cases hv
   | cons c r=>simp
  have h2:=j4 t;cases hlk:look u t.name with
  | none=>
   have:=hmul t.name.length;show tsz (.mk t.name [])<=_;rw [yN,h2,Nat.add_mul,Nat.add_mul];simp only [List.length_nil,zB];omega
  | some r=>
   obtain ⟨p,hp,rfl⟩:=jhL hlk;have h3:=hu p hp;show tsz p.2<=_;have h4:1 * Z<=tsz t * Z:=Nat.mul_le_mul_right Z (by omega);omega
abbrev jz:=List (List UInt8 × T)
mutual
noncomputable def mt (m:jz) (p:T) (t:T):Option jz:=
 match p with
 | .mk n us=>if jh n then (match look m n with|some r=>if dq r t then some m else none|none=>some (m++[(n,t)]))
   else if n=t.name/\us.length=t.args.length then Jp m us t.args else none
termination_by structural p
noncomputable def Jp (m:jz) (ps:List T) (ts:List T):Option jz:=
 match ps with
 | []=>some m
 | u::us=>(match ts with | []=>some m|t::ts=>(mt m u t).bind λm'=>Jp m' us ts)
termination_by structural ps
end
theorem Yq {m:jz} {p t:T} (h:jh p.name=true):mt m p t=(match look m p.name with|some r=>if dq r t then some m else none|none=>some (m++[(p.name,t)])):=by
 obtain ⟨n,us⟩:=p;have h:jh n=true:=h;simp only [mt,h,if_true,T.name]
theorem Zb {m:jz} {p t:T} (h:jh p.name=false):mt m p t=if p.name=t.name/\p.args.length=t.args.length then Jp m p.args t.args else none:=by
 obtain ⟨n,us⟩:=p;have h:jh n=false:=h;simp only [mt,h,Bool.false_eq_true,if_false];rfl
theorem jaS:∀(u v:jz) (n:List UInt8),look (u++v) n=(match look u n with|some r=>some r|none=>look v n)
 | [],v,n=>rfl
 | p::u,v,n=>by
  rw [List.cons_append,look,look];by_cases h:p.1=n
  ·rw [if_pos h,if_pos h]
  ·rw [if_neg h,if_neg h];exact jaS u v n
theorem jel {u:jz} {n:List UInt8} :look u n=none↔ ∀p∈u,p.1≠n:=by
 induction u with
 | nil=>simp [look]
 | cons p u ih=>
  rw [look];by_cases h:p.1=n
  ·rw [if_pos h];simp [h]
  ·rw [if_neg h,ih];simp [h]
theorem Km:∀ {u:jz} {n:List UInt8} {r:T},look u n=some r->(n,r)∈u
 | p::u,n,r,h=>by
  rw [look] at h;by_cases e:p.1=n
  ·rw [if_pos e] at h;cases h;rw [<-e];simp
  ·rw [if_neg e] at h;exact List.mem_cons_of_mem _ (Km h)
def MOk (p:T->Prop) (m:jz):Prop:=(m.map Prod.fst).Nodup/\(∀q∈m,jh q.1=true/\p q.2)
theorem MOk.nil (p:T->Prop):MOk p []:=⟨by simp,λq h=>by cases h⟩
theorem MOk.push {p:T->Prop} {m:jz} (h:MOk p m) {n:List UInt8} {t:T} (hn:jh n=true) (ht:p t) (hl:look m n=none):MOk p (m++[(n,t)]):=by
 refine ⟨?_,λq hq=> ?_⟩
 ·rw [List.map_append,List.nodup_append];refine ⟨h.1,by simp,λa ha b hb=> ?_⟩;simp only [List.map_cons,List.map_nil,List.mem_singleton] at hb;subst hb;obtain ⟨q,hq,rfl⟩:=List.mem_map.1 ha;exact jel.1 hl q hq
 ·rcases List.mem_append.1 hq with hq|hq
  ·exact h.2 q hq
  ·simp only [List.mem_singleton] at hq;subst hq;exact ⟨hn,ht⟩
theorem jhU {p:T->Prop} (hp:∀t,p t-> ∀u∈t.args,p u):∀(a:T) {m m':jz} {t:T},MOk p m->p t->mt m a t=some m'->MOk p m':=by
 refine T.ind (p:=λa=>∀ {m m':jz} {t:T},MOk p m->p t->mt m a t=some m'->MOk p m') λa ih=> ?_;intro m m' t hm ht h;cases hv:jh a.name with
 | true=>
  rw [Yq hv] at h;split at h
  ·split at h
   ·cases h;exact hm
   ·cases h
  ·rename_i hl;cases h;exact hm.push hv ht hl
 | false=>
  rw [Zb hv] at h;split at h
  ·have key:∀(us:List T) (ts:List T) {m m':jz},(∀u∈us,u∈a.args)->(∀u∈ts,p u)->MOk p m->Jp m us ts=some m'->MOk p m':=by
    intro us;induction us with
    | nil=>intro ts m m' _ _ hm h;simp only [Jp,Option.some.injEq] at h;exact h ▸ hm
    | cons u us ih2=>
     intro ts m m' hu hts hm h;cases ts with
     | nil=>simp only [Jp,Option.some.injEq] at h;exact h ▸ hm
     | cons s ts=>
      simp only [Jp] at h;obtain ⟨m1,h1,h2⟩:=Option.bind_eq_some_iff.1 h;exact ih2 ts (λx hx=>hu x (by simp [hx])) (λx hx=>hts x (by simp [hx])) (ih u (hu u (by simp)) hm (hts s (by simp)) h1) h2
   exact key a.args t.args (λ_ h=>h) (hp t ht) hm h
  ·cases h
def Qw (s:jz) (n:List UInt8) (t:T):jz:=s.takeWhile (λp=>yk p.1 n)++(n,t)::s.dropWhile (λp=>yk p.1 n)
def jij (s:jz) (n:List UInt8) (t:T):jz:=if t.name=n then s else Qw s n t
def zj (m:jz):jz:=m.foldl (λs p=>jij s p.1 p.2) []
theorem ZJ (a:List UInt8):yk a a=false:=by
 unfold yk;cases h:Op.bytesLess a a with
 | false=>rfl
 | true=>
  exfalso;induction a with
  | nil=>simp [Op.bytesLess] at h
  | cons c r ih=>simp [Op.bytesLess] at h;exact ih h
theorem jpt (n:List UInt8) (h:jh n=true):zO (.mk n [])=true:=by rw [ya];show (if jh n then _ else _)=true;rw [if_pos h];rfl
theorem jau {u:jz} (hu:∀q∈u,zO q.2=true):∀t:T,zO t=true->zO (sub u t)=true:=by
 refine T.ind λt ih hk=> ?_;cases hv:jh t.name with
 | true=>
  rw [jbM hv,jiF];cases h:look u t.name with
  | none=>exact jpt _ hv
  | some r=>exact hu _ (Km h)
 | false=>
  have hk':=hk;rw [ya,hv,if_neg Bool.false_ne_true,Bool.and_eq_true,Bool.and_eq_true,zG] at hk;rw [ya,QJ hv,hv,if_neg Bool.false_ne_true,QH hv,Bool.and_eq_true,Bool.and_eq_true,zG];refine ⟨hk.1,by simpa using hk.2.1,?_⟩;rw [List.all_map,List.all_eq_true];intro a ha;exact ih a ha (List.all_eq_true.1 hk.2.2 a ha)
def jbk (r:T):T:=r.args.getD 0 (.mk [] [])
def jbn (r:T):T:=r.args.getD 1 (.mk [] [])
noncomputable def jp2:List T->T->Option T
 | [],_=>none
 | r::rs,t=>(match mt [] (jbk r) t with|some m=>some (sub m (jbn r))|none=>jp2 rs t)
mutual
noncomputable def jvR (rs:List T) (root:Bool):T->Option T
 | .mk n us=>(match js8 rs us with|some us'=>some (.mk n us')|none=>if root then jp2 rs (.mk n us) else none)
noncomputable def js8 (rs:List T):List T->Option (List T)
 | []=>none
 | t::ts=>(match jvR rs true t with|some t'=>some (t'::ts)|none=>(js8 rs ts).map (t::·))
end
def atT:List Nat->T->T
 | [],t=>t
 | i::p,t=>atT p (t.args.getD i (.mk [] []))
def jtl (s:T):List Nat->T->T
 | [],_=>s
 | i::p,t=> .mk t.name (t.args.set i (jtl s p (t.args.getD i (.mk [] []))))
mutual
def jih:T->List (List Nat)
 | .mk _ us=>jde 0 us++[[]]
def jde (i:Nat):List T->List (List Nat)
 | []=>[]
 | t::ts=>(jih t).map (i::·)++jde (i+1) ts
end
noncomputable def jyg (rs:List T) (root:Bool) (t:T) (p:List Nat):Option T:=if p = []/\root=false then none else (jp2 rs (atT p t)).map λs=>jtl s p t
def jqU (rs:List T):Prop:=∀r∈rs,zO (jbk r)=true/\zO (jbn r)=true
noncomputable def rwN (rs:List T) (root:Bool):Nat->Nat->T->Option (T × Nat)
 | 0,_,_=>none
 | k+1,n,t=>(match jvR rs root t with
  | none=>some (t,n)
  | some u=>if k=0\/kG u=false then none else rwN rs root k (n+1) u)
theorem jfz (ts:List T) (hl:ts.length<=1048576) (ih:∀t∈ts,G 131 [tm t]=some (tm t,[])):jjb (kr ts)=some (.top,[kr ts]):=by
 rw [jtP];by_cases h0:ts.length=0
 ·have:ts = []:=List.length_eq_zero_iff.1 h0;subst this;simp only [jf,Int.natCast_zero];rfl
 have hz:¬((ts.length:Nat):Int)=0:=by omega
 have hm:=jm2 (b:=40) (n:=ts.length) (by omega) hl;have key:=(upto (P:=λi=>YW (kr ts) (vi (ts.length:Nat)) (vi i) (part jy [sv [],.sl 2 []] ts i)=some (.top,[kr ts])) (n:=ts.length) ?_ ?_ 0 (Nat.zero_le _))
 ·simp only [Int.natCast_zero,<-jm6] at key;simp only [jf,hz,hm,key]
 ·rw [jhD,jpR];simp only [jf]
 ·intro i hi ih';have hlt:(i:Int) < ((ts.length:Nat):Int):=by omega
  have h1:=jif (f:=jy) (z:=[sv [],.sl 2 []]) (Nat.le_of_lt hi);have h2:Z7 (part jy [sv [],.sl 2 []] ts i).length (vi i)=some i:=yb (by omega);have h4:=jpT (f:=jy) (z:=[sv [],.sl 2 []]) hi;rw [kg] at h4;have h5:=jv hi (Nat.le_trans hl (by decide));have e1:G 131 [A.agg [sv ts[i].name,kr ts[i].args]]=_:=ih ts[i] (List.getElem_mem _);rw [jhD];simp only [jf,hlt,jb hi,jk,e1,List.getElem?_cons_zero,h2,jpS hi,jfw,h4,h5,ih']
theorem jaJ (t:T):tsz t<=1048576->G 131 [tm t]=some (tm t,[]):=by
 refine T.ind (p:=λt=>tsz t<=1048576->G 131 [tm t]=some (tm t,[])) ?_ t;intro t ih h;rw [j4] at h;have e1:=jfz t.args (by omega) λu hu=>ih u hu (by have:=qj hu;omega);rw [jxq];simp only [jf,e1]
theorem jyb {n:Nat} (h:n<=4194304):jO n 56=true:=by
 unfold jO;exact decide_eq_true ⟨by omega,by omega⟩
theorem jpl {p:T->Prop} (hp:∀t,p t-> ∀u∈t.args,p u):∀(a:T) {m m':jz} {t:T},(∀q∈m,p q.2)->p t->mt m a t=some m'->(∀q∈m',p q.2)/\m'.length<=m.length+nodes a:=by
 refine T.ind (p:=λa=>∀ {m m':jz} {t:T},(∀q∈m,p q.2)->p t->mt m a t=some m'->(∀q∈m',p q.2)/\m'.length<=m.length+nodes a) λa ih=> ?_;intro m m' t hm ht h;have hn:=jN a;cases hv:jh a.name with
 | true=>
  rw [Yq hv] at h;split at h
  ·split at h
   ·cases h;exact ⟨hm,by omega⟩
   ·cases h
  ·cases h;refine ⟨λq hq=> ?_,by rw [List.length_append,List.length_singleton];omega⟩;rcases List.mem_append.1 hq with hq|hq
   ·exact hm q hq
   ·simp only [List.mem_singleton] at hq;subst hq;exact ht
 | false=>
  rw [Zb hv] at h;split at h
  ·have key:∀(us:List T) (ts:List T) {m m':jz},(∀u∈us,u∈a.args)->(∀u∈ts,p u)->(∀q∈m,p q.2)->Jp m us ts=some m'->(∀q∈m',p q.2)/\m'.length<=m.length+jA us:=by
    intro us;induction us with
    | nil=>intro ts m m' _ _ hm h;simp only [Jp,Option.some.injEq] at h;exact h ▸ ⟨hm,by omega⟩
    | cons u us ih2=>
     intro ts m m' hu hts hm h;have e:jA (u::us)=nodes u+jA us:=rfl;cases ts with
     | nil=>simp only [Jp,Option.some.injEq] at h;exact h ▸ ⟨hm,by omega⟩
     | cons s ts=>
      simp only [Jp] at h;obtain ⟨m1,h1,h2⟩:=Option.bind_eq_some_iff.1 h;obtain ⟨i1,i2⟩:=ih u (hu u (by simp)) hm (hts s (by simp)) h1;obtain ⟨j1,j2⟩:=ih2 ts (λx hx=>hu x (by simp [hx])) (λx hx=>hts x (by simp [hx])) i1 h2;exact ⟨j1,by omega⟩
   obtain ⟨i1,i2⟩:=key a.args t.args (λ_ h=>h) (hp t ht) hm h;exact ⟨i1,by omega⟩
  ·cases h
def MR (o:Option Out) (r:Option jz):Prop:=match r with
 | some m'=>o=some (.top,[vb true,.sl 259 (m'.map bc)])
 | none=>∃R,o=some (.top,[vb false,.sl 259 R])
def Tz (t:T):Prop:=tsz t<=1048576
theorem Tz.args {t:T} (h:Tz t):∀u∈t.args,Tz u:=λu hu=>by
 have:=qj hu;unfold Tz at h ⊢;rw [j4] at h;omega
theorem Tz.wf {t:T} (h:Tz t):twf t:=juG t h
abbrev kv (p:List UInt8 × T):List A:=[sv p.1,tm p.2]
theorem joC (a b:List UInt8):eqK none (sv a) (sv b)=some (decide (a=b)):=by show some (decide (bs _=bs _))=_;refine congrArg some (decide_eq_decide.2 ?_);simp
theorem Kn (n:List UInt8):∀(m:jz) (k:Nat),yz none (sv n) (m.map kv) k=some (match look m n with|some _=>(match m.findIdx? (λp=>decide (p.1=n)) with|some j=>some (k+j,tm ((look m n).getD (.mk [] [])))|none=>none)|none=>none)
 | [],k=>rfl
 | p::m,k=>by
  rw [List.map_cons,look,yz,joC];by_cases h:p.1=n
  ·rw [if_pos h,decide_eq_true h.symm,List.findIdx?_cons,if_pos (decide_eq_true h)];rfl
  ·rw [if_neg h,decide_eq_false (λe=>h e.symm),List.findIdx?_cons,if_neg (by simp [h])];show yz none (sv n) (m.map kv) (k+1)=_;rw [Kn n m (k+1)];cases look m n with
   | none=>rfl
   | some r=>
    cases m.findIdx? (λp=>decide (p.1=n)) with
    | none=>rfl
    | some j=>show some (some (k+1+j,_))=some (some (k+(j+1),_));rw [show k+1+j=k+(j+1) by omega]
theorem jcQ {n:List UInt8} :∀ {m:jz} {r:T},look m n=some r-> ∃j,m.findIdx? (λp=>decide (p.1=n))=some j/\m.set j (n,r)=m
 | p::m,r,h=>by
  rw [look] at h;rw [List.findIdx?_cons];by_cases e:p.1=n
  ·rw [if_pos e] at h;rw [if_pos (decide_eq_true e)];cases h;exact ⟨0,rfl,by rw [<-e];rfl⟩
  ·rw [if_neg e] at h;rw [if_neg (by simp [e])];obtain ⟨j,h1,h2⟩:=jcQ h;exact ⟨j+1,by rw [h1];rfl,by rw [List.set_cons_succ,h2]⟩
theorem jh8 (z:List A) (m:jz) (n:List UInt8):Jy none true false z (.mp (m.map kv)) (sv n)=some (match look m n with|some r=> .tup [tm r,vb true]|none=> .tup [.agg z,vb false]):=by
 show ((some (m.map kv)).bind λxs=>(yz none (sv n) xs 0).map (jlx true false z))=_;rw [Option.bind_some,Kn];cases h:look m n with
 | none=>rfl
 | some r=>
  obtain ⟨j,h1,_⟩:=jcQ h;show (some (match m.findIdx? _ with|some j=>some (0+j,tm r)|none=>none)).map _=_;rw [h1];rfl
theorem jaj {m:jz} {n:List UInt8} (h:look m n=none) (t:T):jbm none (m.map kv) (sv n) (tm t)=some ((m++[(n,t)]).map kv):=by
 show (yz none (sv n) (m.map kv) 0).map _=_;rw [Kn,h,List.map_append];rfl
theorem jex {m:jz} {n:List UInt8} {r:T} (h:look m n=some r) (a:A):∃R,jbm none (m.map kv) (sv n) a=some R/\(a=tm r->R=m.map kv):=by
 obtain ⟨j,h1,h2⟩:=jcQ h;refine ⟨(m.map kv).set j [sv n,a],?_,λe=> ?_⟩
 ·show (yz none (sv n) (m.map kv) 0).map _=_;rw [Kn,h];show (some (match m.findIdx? _ with|some j=>some (0+j,tm r)|none=>none)).map _=_;rw [h1];show some ((m.map kv).set (0+j) [sv n,a])=_;rw [Nat.zero_add]
 ·rw [e];have:([sv n,tm r]:List A)=kv (n,r):=rfl;rw [this,<-List.map_set,h2]
def MI (o:Option Out) (r:Option jz):Prop:=match r with
 | some m'=>o=some (.top,[vb true,.sl 128 (m'.map kv)])
 | none=>∃R,o=some (.top,[vb false,.sl 128 R])
theorem jmy (a t:T) (ht:Tz t) (ha:Tz a) (hl:a.args.length=t.args.length) (m:jz) (hm:∀q∈m,Tz q.2)
  (ih:∀u∈a.args,∀(s:T) (m:jz),Tz s->(∀q∈m,Tz q.2)->MI (qW (sv u.name) (kr u.args) (tm s) (m.map kv)) (mt m u s)) :
  MI (KT (kr a.args) (vi (a.args.length:Nat)) (vi 0) (sv t.name) (kr t.args) (m.map kv)) (Jp m a.args t.args):=by
 have ha':=ha;unfold Tz at ha;rw [j4] at ha;have key2:=upto (P:=λi=>∀m:jz,(∀q∈m,Tz q.2)->MI (KT (kr a.args) (vi (a.args.length:Nat)) (vi i) (sv t.name) (kr t.args) (m.map kv)) (Jp m (a.args.drop i) (t.args.drop i))) (n:=a.args.length) ?_ ?_;rotate_left
 ·intro m hm;rw [List.drop_length,jhA];simp only [Jp];show _=_;simp only [jf]
 ·intro i hi ih2 m hm;have hi':i < t.args.length:=by omega
  have hlt:(i:Int) < ((a.args.length:Nat):Int):=by omega
  have h5:=jv hi (by show a.args.length<=9223372036854775807;omega)
  have q:=ih a.args[i] (List.getElem_mem _) t.args[i] m (ht.args _ (List.getElem_mem _)) hm;rw [jl hi,jl hi',jhA];simp only [Jp];cases hq:mt m a.args[i] t.args[i] with
  | none=>
   rw [hq] at q;obtain ⟨R,q⟩:=q;refine ⟨R,?_⟩;simp only [jf,hlt,jb hi,jb hi',jk,q,List.getElem?_cons_zero]
  | some m1=>
   rw [hq] at q;have q:qW (sv a.args[i].name) (kr a.args[i].args) (tm t.args[i]) (m.map kv)=some (.top,[vb true,.sl 128 (m1.map kv)]):=q;obtain ⟨i1,i2⟩:=jpl (p:=Tz) (λ_ h=>h.args) _ hm (ht.args _ (List.getElem_mem hi')) hq;simp only [jf,hlt,jb hi,jb hi',jk,q,List.getElem?_cons_zero,h5];exact ih2 m1 i1
 exact key2 0 (Nat.zero_le _) m hm
theorem jmx (a t:T) (ht:Tz t) (ha:Tz a) (hl:a.args.length=t.args.length) (m:jz) (hm:∀q∈m,Tz q.2)
  (ih:∀u∈a.args,∀(s:T) (m:jz),Tz s->(∀q∈m,Tz q.2)->MI (qW (sv u.name) (kr u.args) (tm s) (m.map kv)) (mt m u s)) :
  MI (KS (kr a.args) (vi (a.args.length:Nat)) (vi 0) (sv t.name) (kr t.args) (m.map kv)) (Jp m a.args t.args):=by
 have ha':=ha;unfold Tz at ha;rw [j4] at ha;have key2:=upto (P:=λi=>∀m:jz,(∀q∈m,Tz q.2)->MI (KS (kr a.args) (vi (a.args.length:Nat)) (vi i) (sv t.name) (kr t.args) (m.map kv)) (Jp m (a.args.drop i) (t.args.drop i))) (n:=a.args.length) ?_ ?_;rotate_left
 ·intro m hm;rw [List.drop_length,jhz];simp only [Jp];show _=_;simp only [jf]
 ·intro i hi ih2 m hm;have hi':i < t.args.length:=by omega
  have hlt:(i:Int) < ((a.args.length:Nat):Int):=by omega
  have h5:=jv hi (by show a.args.length<=9223372036854775807;omega)
  have q:=ih a.args[i] (List.getElem_mem _) t.args[i] m (ht.args _ (List.getElem_mem _)) hm;rw [jl hi,jl hi',jhz];simp only [Jp];cases hq:mt m a.args[i] t.args[i] with
  | none=>
   rw [hq] at q;obtain ⟨R,q⟩:=q;refine ⟨R,?_⟩;simp only [jf,hlt,jb hi,jb hi',jk,q,List.getElem?_cons_zero]
  | some m1=>
   rw [hq] at q;have q:qW (sv a.args[i].name) (kr a.args[i].args) (tm t.args[i]) (m.map kv)=some (.top,[vb true,.sl 128 (m1.map kv)]):=q;obtain ⟨i1,i2⟩:=jpl (p:=Tz) (λ_ h=>h.args) _ hm (ht.args _ (List.getElem_mem hi')) hq;simp only [jf,hlt,jb hi,jb hi',jk,q,List.getElem?_cons_zero,h5];exact ih2 m1 i1
 exact key2 0 (Nat.zero_le _) m hm
theorem joL (a:T) (ha:Tz a) (hk:zO a=true) (t:T) (m:jz) (ht:Tz t) (hm:∀q∈m,Tz q.2)
  (ih:∀u∈a.args,∀(s:T) (m:jz),Tz s->(∀q∈m,Tz q.2)->MI (qW (sv u.name) (kr u.args) (tm s) (m.map kv)) (mt m u s)) :
  MI (qW (sv a.name) (kr a.args) (tm t) (m.map kv)) (mt m a t):=by
 have e1:G 141 [.agg [sv a.name,kr a.args]]=some (vb (jh a.name),[]):=jcx a hk;have hal:a.args.length<=1048576:=by unfold Tz at ha;rw [j4] at ha;omega
 rw [jtK];cases hv:jh a.name<;>rw [hv] at e1
 ·rw [Zb hv];have pk:(if ((a.args.length:Nat):Int)=0 then G 141 [.agg [sv a.name,kr a.args]] else some (vb false,[]))=some (vb false,[]):=by split<;>first|exact e1|rfl
  by_cases he:a.name=t.name/\a.args.length=t.args.length
  ·rw [if_pos he];have hl:((a.args.length:Nat):Int)=((t.args.length:Nat):Int):=by omega
   have:=jmy a t ht ha he.2 m hm ih;by_cases h0:((a.args.length:Nat):Int)=0
   ·have h0':((t.args.length:Nat):Int)=0:=by omega
    rw [he.1] at e1;rw [he.2,h0'] at this;simp only [jf,he.1,h0',e1,hl];exact this
   ·have h0':¬((t.args.length:Nat):Int)=0:=by omega
    rw [he.1] at e1;rw [he.2] at this;simp only [jf,he.1,h0',hl];exact this
  ·rw [if_neg he];refine ⟨m.map kv,?_⟩;by_cases h1:a.name=t.name
   ·have hl:¬((a.args.length:Nat):Int)=((t.args.length:Nat):Int):=λh=>he ⟨h1,by omega⟩;rw [h1] at e1;by_cases h0:((a.args.length:Nat):Int)=0
    ·have hl0:¬(0:Int)=((t.args.length:Nat):Int):=by omega
     simp only [jf,e1,h1,h0,hl0]
    ·simp only [jf,h1,h0,hl]
   ·by_cases h0:((a.args.length:Nat):Int)=0
    ·simp only [jf,e1,h1,h0]
    ·simp only [jf,h1,h0]
 ·rw [Yq hv];have h0:a.args = []:=Zs hk hv;rw [h0] at e1;have hz:(((0:Nat):Int)=0)=True:=by simp
  have lk:=jh8 [sv [],.sl 2 []] m a.name;cases hl:look m a.name with
  | none=>
   rw [hl] at lk;have lk:Jy none true false [sv [],.sl 2 []] (.mp (m.map kv)) (sv a.name)=some (.tup [.agg [sv [],.sl 2 []],vb false]):=lk;have pp:=jaj hl t;show _=_;rw [h0];simp only [jf,e1,hz,lk,pp,List.map_nil]
  | some r=>
   rw [hl] at lk;have lk:Jy none true false [sv [],.sl 2 []] (.mp (m.map kv)) (sv a.name)=some (.tup [tm r,vb true]):=lk;obtain ⟨R,pp,hR⟩:=jex hl (tm t);have e2:=JG r (hm _ (Km hl)).wf t ht.wf;show MI _ (if dq r t=true then some m else none);rw [h0];cases hd:dq r t<;>rw [hd] at e2
   ·rw [if_neg Bool.false_ne_true];refine ⟨R,?_⟩;simp only [jf,e1,hz,lk,pp,e2,List.map_nil]
   ·rw [if_pos rfl];have hr:R=m.map kv:=hR (by rw [yK.1 hd]);rw [hr] at pp;show _=_;simp only [jf,e1,hz,lk,pp,e2,List.map_nil]
theorem jmw (a:T) (ha:Tz a) (e1:G 141 [.agg [sv a.name,kr a.args]]=some (vb (jh a.name),[])) (hva:jh a.name=true->a.args = []) (t:T) (m:jz) (ht:Tz t) (hm:∀q∈m,Tz q.2)
  (ih:∀u∈a.args,∀(s:T) (m:jz),Tz s->(∀q∈m,Tz q.2)->MI (qW (sv u.name) (kr u.args) (tm s) (m.map kv)) (mt m u s)) :
  MI (jbR (tm a) (sv t.name) (kr t.args) (m.map kv)) (mt m a t):=by
 have hal:a.args.length<=1048576:=by unfold Tz at ha;rw [j4] at ha;omega
 rw [jtJ];cases hv:jh a.name<;>rw [hv] at e1
 ·rw [Zb hv];have pk:(if ((a.args.length:Nat):Int)=0 then G 141 [.agg [sv a.name,kr a.args]] else some (vb false,[]))=some (vb false,[]):=by split<;>first|exact e1|rfl
  by_cases he:a.name=t.name/\a.args.length=t.args.length
  ·rw [if_pos he];have hl:((a.args.length:Nat):Int)=((t.args.length:Nat):Int):=by omega
   have:=jmx a t ht ha he.2 m hm ih;by_cases h0:((a.args.length:Nat):Int)=0
   ·have h0':((t.args.length:Nat):Int)=0:=by omega
    rw [he.1] at e1;rw [he.2,h0'] at this;simp only [jf,he.1,h0',e1,hl];exact this
   ·have h0':¬((t.args.length:Nat):Int)=0:=by omega
    rw [he.1] at e1;rw [he.2] at this;simp only [jf,he.1,h0',hl];exact this
  ·rw [if_neg he];refine ⟨m.map kv,?_⟩;by_cases h1:a.name=t.name
   ·have hl:¬((a.args.length:Nat):Int)=((t.args.length:Nat):Int):=λh=>he ⟨h1,by omega⟩;rw [h1] at e1;by_cases h0:((a.args.length:Nat):Int)=0
    ·have hl0:¬(0:Int)=((t.args.length:Nat):Int):=by omega
     simp only [jf,e1,h1,h0,hl0]
    ·simp only [jf,h1,h0,hl]
   ·by_cases h0:((a.args.length:Nat):Int)=0
    ·simp only [jf,e1,h1,h0]
    ·simp only [jf,h1,h0]
 ·rw [Yq hv];have h0:a.args = []:=hva hv;rw [h0] at e1;have hz:(((0:Nat):Int)=0)=True:=by simp
  have hta:tm a = .agg [sv a.name,kr []]:=by show A.agg [_,A.sl 2 (a.args.map jy)]=_;rw [h0]
  have lk:=jh8 [sv [],.sl 2 []] m a.name;cases hl:look m a.name with
  | none=>
   rw [hl] at lk;have lk:Jy none true false [sv [],.sl 2 []] (.mp (m.map kv)) (sv a.name)=some (.tup [.agg [sv [],.sl 2 []],vb false]):=lk;have pp:=jaj hl t;show _=_;rw [hta];simp only [jf,e1,hz,lk,pp,List.map_nil]
  | some r=>
   rw [hl] at lk;have lk:Jy none true false [sv [],.sl 2 []] (.mp (m.map kv)) (sv a.name)=some (.tup [tm r,vb true]):=lk;obtain ⟨R,pp,hR⟩:=jex hl (tm t);have e2:=JG r (hm _ (Km hl)).wf t ht.wf;show MI _ (if dq r t=true then some m else none);rw [hta];cases hd:dq r t<;>rw [hd] at e2
   ·rw [if_neg Bool.false_ne_true];refine ⟨R,?_⟩;simp only [jf,e1,hz,lk,pp,e2,List.map_nil]
   ·rw [if_pos rfl];have hr:R=m.map kv:=hR (by rw [yK.1 hd]);rw [hr] at pp;show _=_;simp only [jf,e1,hz,lk,pp,e2,List.map_nil]
theorem jpj:∀(a:T),Tz a->zO a=true-> ∀(t:T) (m:jz),Tz t->(∀q∈m,Tz q.2)->MI (qW (sv a.name) (kr a.args) (tm t) (m.map kv)) (mt m a t):=by
 refine T.ind λa ih ha hk t m ht hm=> ?_;exact joL a ha hk t m ht hm λu hu s m hs hm=>ih u hu (ha.args u hu) (zH hk u hu) s m hs hm
theorem jam {α:Type} (f:α->List A) (l:List α):Ji (l.map f)=l.length:=List.length_map ..
abbrev pln (p:List Nat):A:= .sl 1 (p.map λn=>[vi (n:Nat)])
abbrev plc (p:List Nat):List A:=[pln p]
mutual
theorem jm7:∀t:T,(jih t).length=nodes t
 | .mk n us=>by
  rw [jih,nodes,List.length_append,jeA us 0];simp;omega
theorem jeA:∀(us:List T) (i:Nat),(jde i us).length=jA us
 | [],i=>rfl
 | t::ts,i=>by
  rw [jde,jA,List.length_append,List.length_map,jm7 t,jeA ts (i+1)]
end
def okP:List Nat->T->Prop
 | [],_=>True
 | i::p,t=>i < t.args.length/\okP p (t.args.getD i (.mk [] []))
theorem jlj {ts:List T} {i:Nat} (h:i < ts.length):ts.getD i (.mk [] [])=ts[i]:=by rw [List.getD_eq_getElem?_getD,List.getElem?_eq_getElem h];rfl
mutual
theorem jpU:∀(t:T),∀p∈jih t,okP p t/\p.length<=nodes t
 | .mk n us=>λp hp=>by
  rw [jih,List.mem_append] at hp;rcases hp with hp|hp
  ·obtain ⟨j,q,rfl,h1,h2,h3⟩:=jig us 0 p hp;refine ⟨?_,?_⟩
   ·show (0+j) < us.length/\okP q (us.getD (0+j) _);rw [Nat.zero_add];exact ⟨h1,h2⟩
   ·rw [List.length_cons,nodes];omega
  ·rw [List.mem_singleton] at hp;subst hp;exact ⟨trivial,by simp⟩
theorem jig:∀(us:List T) (i:Nat),∀p∈jde i us,∃j q,p=(i+j)::q/\j < us.length/\okP q (us.getD j (.mk [] []))/\q.length<=jA us
 | [],i,p,hp=>by rw [jde] at hp;cases hp
 | t::ts,i,p,hp=>by
  rw [jde,List.mem_append] at hp;rcases hp with hp|hp
  ·obtain ⟨q,hq,rfl⟩:=List.mem_map.1 hp;obtain ⟨h1,h2⟩:=jpU t q hq;exact ⟨0,q,rfl,by simp,h1,by rw [jA];omega⟩
  ·obtain ⟨j,q,rfl,h1,h2,h3⟩:=jig ts (i+1) p hp;exact ⟨j+1,q,by rw [show i+1+j=i+(j+1) by omega],by simpa using h1,by simpa using h2,by rw [jA];omega⟩
end
theorem jlH {q:T->Prop} (hq:∀t,q t-> ∀u∈t.args,q u):∀ {p:List Nat} {t:T},okP p t->q t->q (atT p t)
 | [],_,_,h=>h
 | i::p,t,hp,h=>by
  obtain ⟨h1,h2⟩:=hp;refine jlH (p:=p) hq h2 ?_;rw [jlj h1];exact hq t h _ (List.getElem_mem _)
theorem jqr {n:List UInt8} (h:jh n=true):n.length<=4:=by
 cases n with
 | nil=>simp
 | cons c r=>
  simp only [jh,Bool.and_eq_true,decide_eq_true_eq] at h;rw [List.length_cons];omega
theorem jny {n:List UInt8} (h:zZ n=true):n.length<=6:=by
 cases n with
 | nil=>simp
 | cons c r=>
  simp only [zZ,Bool.and_eq_true,decide_eq_true_eq] at h;rw [List.length_cons];omega
theorem jag:∀t:T,zO t=true->tsz t<=10 * nodes t:=by
 refine T.ind λt ih hk=> ?_;have hL:∀us:List T,(∀u∈us,tsz u<=10 * nodes u)->zB us<=10 * jA us:=by
  intro us;induction us with
  | nil=>intro _;simp [zB]
  | cons u us ih2=>
   intro h;have:=h u (by simp);have:=ih2 λw hw=>h w (by simp [hw]);simp only [zB,jA];omega
 have h1:=hL t.args λu hu=>ih u hu (zH hk u hu);rw [j4,jN];rw [ya] at hk;cases hv:jh t.name with
 | true=>
  rw [hv,if_pos rfl] at hk;have:=jqr hv;rw [List.isEmpty_iff.1 hk] at h1 ⊢;simp only [List.length_nil,zB] at h1 ⊢;omega
 | false=>
  rw [hv,if_neg Bool.false_ne_true,Bool.and_eq_true,Bool.and_eq_true,decide_eq_true_eq] at hk;have:=jny hk.1;omega
theorem jnw {u:jz} {Z:Nat} (hZ:1<=Z) (hu:∀q∈u,nodes q.2<=Z):∀t:T,nodes (sub u t)<=nodes t * Z:=by
 refine T.ind λt ih=> ?_;cases hv:jh t.name with
 | true=>
  have h1:=jep t;have h2:1 * Z<=nodes t * Z:=Nat.mul_le_mul_right Z h1;rw [jbM hv,jiF];cases hl:look u t.name with
  | none=>show 1+0<=_;omega
  | some r=>have:nodes r<=Z:=hu _ (Km hl);show nodes r<=_;omega
 | false=>
  have hL:∀us:List T,(∀v∈us,nodes (sub u v)<=nodes v * Z)->jA (us.map (sub u))<=jA us * Z:=by
   intro us;induction us with
   | nil=>intro _;simp [jA]
   | cons v us ih2=>
    intro h;have:=h v (by simp);have:=ih2 λw hw=>h w (by simp [hw]);simp only [List.map_cons,jA,Nat.add_mul];omega
  have:=hL t.args ih;rw [jN,QH hv,jN t,Nat.add_mul];omega
theorem jad {t u:T} (h:u∈t.args):nodes u < nodes t:=by
 have:=Yr h;have:=jN t;omega
def Vs (t:T):Prop:=zO t=true/\nodes t<=30
theorem Vs.args {t:T} (h:Vs t):∀u∈t.args,Vs u:=λu hu=>⟨zH h.1 u hu,by have:=jad hu;have:=h.2;omega⟩
theorem Vs.tz {t:T} (h:Vs t):Tz t:=by
 have:=jag t h.1;have:=h.2;unfold Tz;omega
def RS (rs:List T):Prop:=rs.length<=10/\ ∀r∈rs,r.args.length=2/\Vs (jbk r)/\Vs (jbn r)
theorem RS.ok {rs:List T} (h:RS rs):jqU rs:=λr hr=>⟨(h.2 r hr).2.1.1,(h.2 r hr).2.2.1⟩
def EX (root:Bool) (t:T):Prop:=(nodes t<=31/\Tz t)/\(∀u∈t.args,Vs u)/\(root=true->Vs t)
def jzE (t:T) (o:Option T):Option Out:=match o with|some u=>some (.tup [tm u,vb true],[])|none=>some (.tup [tm t,vb false],[])
theorem EX.at {root:Bool} {t:T} (h:EX root t) {p:List Nat} (hp:okP p t) (hne:¬(p = []/\root=false)):Vs (atT p t):=by
 obtain ⟨_,h1,h2⟩:=h;cases p with
 | nil=>
  cases root
  ·exact absurd ⟨rfl,rfl⟩ hne
  ·exact h2 rfl
 | cons i p=>
  obtain ⟨a,b⟩:=hp;refine jlH (p:=p) (q:=Vs) (λ_ h=>h.args) b ?_;rw [jlj a];exact h1 _ (List.getElem_mem _)
def jun (o:Option T):Option Out:=match o with|some u=>some (.tup [tm u,vb true],[])|none=>some (.tup [.agg [sv [],.sl 2 []],vb false],[])
def Srt (l:List (List UInt8)):Prop:=l.Pairwise λx y=>x < y
theorem KA (x y:List UInt8):yk x y=decide (x < y):=Go.Proofs.bytesLess_eq x y
theorem jud {x y:List UInt8} (h1:¬x < y) (h2:x≠y):y < x:=by
 have h3:y<=x:=List.not_lt.1 h1;exact Std.lt_of_le_of_ne h3 (Ne.symm h2)
mutual
def jwh:T->List (List UInt8)
 | .mk n us=>(if jh n then [] else [n])++jqj us
def jqj:List T->List (List UInt8)
 | []=>[]
 | t::ts=>jwh t++jqj ts
end
theorem jkt {n:List UInt8} (h:jh n=true):zZ n=false:=by
 cases n with
 | nil=>rfl
 | cons c r=>
  simp only [jh,Bool.and_eq_true,YG,KP,decide_eq_true_eq] at h;have:ZR c=false:=by unfold ZR KP;rw [Bool.and_eq_false_iff];left;rw [decide_eq_false_iff_not];omega
  simp [zZ,this]
def jyr (l vs:List (List UInt8)) (k:Nat) (r:List (List UInt8)):Prop:=jwN l vs k r/\(l.Nodup->r.Nodup)
def jzL (r:List (List UInt8)):Ord':=⟨r,List.replicate r.length 1,1⟩
theorem jor {ts:List T} {t:T} (h:t∈ts):qw t<=K1 ts:=by
 induction ts with
 | nil=>cases h
 | cons u us ih=>
  simp only [K1];rcases List.mem_cons.1 h with h|h
  ·subst h;omega
  ·have:=ih h;omega
def EX' (root:Bool) (t:T):Prop:=EX root t/\(root=false->t.name = [61]/\t.args.length=2)
theorem jlG {us:List T} (h:∀u∈us,zO u=true):zB us<=10 * jA us:=by
 induction us with
 | nil=>simp [zB]
 | cons u us ih=>
  have:=jag u (h u (by simp));have:=ih λw hw=>h w (by simp [hw]);simp only [zB,jA];omega
def jzD (o:Option (T × Nat)):Option Out:=match o with|some r=>some (.tup [tm r.1,vi (r.2:Nat),vb true],[])|none=>some (.tup [.agg [sv [],.sl 2 []],vi 0,vb false],[])
structure Law3 {α:Type} (c:α->α->Int):Prop where
 zero:∀a b,c a b=0↔a=b
 flip:∀a b,c b a = -(c a b)
 trans:∀a b d,c a b < 0->c b d < 0->c a d < 0
section
variable {α:Type} {c:α->α->Int}
def Asc (c:α->α->Int) (l:List α):Prop:=l.Pairwise λa b=>c a b < 0
theorem jbw (h:Law3 c):∀ {l m:List α},Asc c l->Asc c m->(∀x,x∈l↔x∈m)->l=m
 | [],[],_,_,_=>rfl
 | [],b::m,_,_,hx=>absurd ((hx b).2 (by simp)) (by simp)
 | a::l,[],_,_,hx=>absurd ((hx a).1 (by simp)) (by simp)
 | a::l,b::m,h1,h2,hx=>by
  obtain ⟨g1,g2⟩:=List.pairwise_cons.1 h1;obtain ⟨k1,k2⟩:=List.pairwise_cons.1 h2;have hab:a=b:=by
   rcases List.mem_cons.1 ((hx a).1 (by simp)) with e|e
   ·exact e
   rcases List.mem_cons.1 ((hx b).2 (by simp)) with e'|e'
   ·exact e'.symm
   ·have q1:=k1 a e;have q2:=g1 b e';have q3:=h.flip a b;omega
  subst hab;have:l=m:=jbw h g2 k2 λx=>by
   constructor
   ·intro hxl;rcases List.mem_cons.1 ((hx x).1 (by simp [hxl])) with e|e
    ·have:=g1 x hxl;rw [e,(h.zero a a).2 rfl] at this;omega
    ·exact e
   ·intro hxm;rcases List.mem_cons.1 ((hx x).2 (by simp [hxm])) with e|e
    ·have:=k1 x hxm;rw [e,(h.zero a a).2 rfl] at this;omega
    ·exact e
  rw [this]
def Qa (eq:α->α->Bool):List α->List α
 | []=>[]
 | a::l=>(match Qa eq l with | []=>[a]|b::m=>if eq a b then b::m else a::b::m)
theorem jd8 (h:Law3 c) {eq:α->α->Bool} (he:∀a b,eq a b=true↔a=b):∀ {l:List α},l.Pairwise (λa b=>¬c b a < 0)->Asc c (Qa eq l)/\ ∀x,x∈Qa eq l↔x∈l
 | [],_=>⟨List.Pairwise.nil,λx=>Iff.rfl⟩
 | a::l,hp=>by
  obtain ⟨g1,g2⟩:=List.pairwise_cons.1 hp;obtain ⟨k1,k2⟩:=jd8 h he g2;rw [Qa];cases hc:Qa eq l with
  | nil=>
   rw [hc] at k2;refine ⟨by unfold Asc;simp,λx=> ?_⟩;show x ∈ [a]↔_;constructor
   ·intro hx;simp only [List.mem_singleton] at hx;simp [hx]
   ·intro hx;rcases List.mem_cons.1 hx with e|e
    ·simp [e]
    ·exact absurd ((k2 x).2 e) (by simp)
  | cons b m=>
   rw [hc] at k1 k2;have hbl:b∈l:=(k2 b).1 (by simp);by_cases hab:a=b
   ·show Asc c (if eq a b then b::m else a::b::m)/\_;have he':=(he a b).2 hab;have e2:(if eq a b then b::m else a::b::m)=b::m:=if_pos he';refine ⟨by rw [e2];exact k1,λx=> ?_⟩;show x∈(if eq a b then b::m else a::b::m)↔_;rw [e2,k2,List.mem_cons];constructor
    ·exact Or.inr
    ·rintro (e|e)
     ·rw [e,hab];exact hbl
     ·exact e
   ·have he':¬eq a b=true:=λe=>hab ((he a b).1 e);have e2:(if eq a b then b::m else a::b::m)=a::b::m:=if_neg he';have hlt:c a b < 0:=by
     have q1:=g1 b hbl;have q2:=h.flip a b;have q3:c a b≠0:=λe=>hab ((h.zero a b).1 e);omega
    refine ⟨?_,λx=> ?_⟩
    ·show Asc c (if eq a b then b::m else a::b::m);rw [e2];refine List.pairwise_cons.2 ⟨λx hx=> ?_,k1⟩;rcases List.mem_cons.1 hx with e|e
     ·rw [e];exact hlt
     ·exact h.trans a b x hlt ((List.pairwise_cons.1 k1).1 x e)
    ·show x∈(if eq a b then b::m else a::b::m)↔_;rw [e2,List.mem_cons,k2,List.mem_cons]
theorem Yb {p:α->Bool} :∀ {l:List α} {a:α},a∈l.takeWhile p->p a=true
 | x::l,a,h=>by
  by_cases hx:p x=true
  ·rw [List.takeWhile_cons_of_pos hx] at h;rcases List.mem_cons.1 h with e|e
   ·rw [e];exact hx
   ·exact Yb e
  ·rw [List.takeWhile_cons_of_neg hx] at h;cases h
def qx (c:α->α->Int) (l:List α) (x:α):List α:=if (l.dropWhile λa=>decide (c a x < 0)).head?.any (λb=>decide (c b x=0)) then l else l.takeWhile (λa=>decide (c a x < 0))++x::l.dropWhile λa=>decide (c a x < 0)
theorem Qm (h:Law3 c) {l:List α} (hl:Asc c l) (x:α):Asc c (qx c l x)/\ ∀y,y∈qx c l x↔y∈l\/y=x:=by
 have e:=List.takeWhile_append_dropWhile (p:=λa=>decide (c a x < 0)) (l:=l);have ht:∀a∈l.takeWhile (λa=>decide (c a x < 0)),c a x < 0:=λa ha=>of_decide_eq_true (Yb (p:=λa=>decide (c a x < 0)) ha);unfold qx;generalize l.takeWhile (λa=>decide (c a x < 0))=t at *;cases hd:l.dropWhile (λa=>decide (c a x < 0)) with
 | nil=>
  rw [hd,List.append_nil] at e;subst e;rw [if_neg (by simp)];refine ⟨?_,λy=>by simp⟩;refine List.pairwise_append.2 ⟨hl,by simp,λa ha b hb=> ?_⟩;simp only [List.mem_singleton] at hb;rw [hb];exact ht a ha
 | cons b m=>
  have hb:¬c b x < 0:=by
   intro hb;have:=List.head?_dropWhile_not (p:=λa=>decide (c a x < 0)) l;rw [hd] at this;simp [hb] at this
  rw [hd] at e;by_cases h0:c b x=0
  ·rw [if_pos (by simp [h0])];refine ⟨hl,λy=>⟨Or.inl,λhy=> ?_⟩⟩;rcases hy with hy|hy
   ·exact hy
   ·rw [hy,<-(h.zero b x).1 h0,<-e];simp
  ·rw [if_neg (by simp [h0])];rw [<-e] at hl;obtain ⟨p1,p2,p3⟩:=List.pairwise_append.1 hl;have hxb:c x b < 0:=by have:=h.flip b x;omega
   refine ⟨List.pairwise_append.2 ⟨p1,List.pairwise_cons.2 ⟨λy hy=> ?_,p2⟩,λa ha y hy=> ?_⟩,λy=> ?_⟩
   ·rcases List.mem_cons.1 hy with e'|e'
    ·rw [e'];exact hxb
    ·exact h.trans x b y hxb ((List.pairwise_cons.1 p2).1 y e')
   ·rcases List.mem_cons.1 hy with e'|e'
    ·rw [e'];exact ht a ha
    ·exact p3 a ha y e'
   ·rw [<-e];simp only [List.mem_append,List.mem_cons];constructor
    ·rintro (h|h|h|h)
     ·exact Or.inl (Or.inl h)
     ·exact Or.inr h
     ·exact Or.inl (Or.inr (Or.inl h))
     ·exact Or.inl (Or.inr (Or.inr h))
    ·rintro ((h|h|h)|h)
     ·exact Or.inl h
     ·exact Or.inr (Or.inr (Or.inl h))
     ·exact Or.inr (Or.inr (Or.inr h))
     ·exact Or.inr (Or.inl h)
def zl (c:α->α->Int) (l:List α):List α:=l.foldl (qx c) []
theorem zS (h:Law3 c) (l:List α):Asc c (zl c l)/\ ∀y,y∈zl c l↔y∈l:=by
 have key:∀(l m:List α),Asc c m->Asc c (l.foldl (qx c) m)/\ ∀y,y∈l.foldl (qx c) m↔y∈m\/y∈l:=by
  intro l;induction l with
  | nil=>intro m hm;exact ⟨hm,λy=>by simp⟩
  | cons x l ih=>
   intro m hm;obtain ⟨g1,g2⟩:=Qm h hm x;obtain ⟨k1,k2⟩:=ih _ g1;refine ⟨k1,λy=> ?_⟩;rw [List.foldl_cons,k2,g2,List.mem_cons,or_assoc]
 obtain ⟨g1,g2⟩:=key l [] List.Pairwise.nil;exact ⟨g1,λy=>by rw [zl,g2];simp⟩
theorem jrF (h:Law3 c) {eq:α->α->Bool} (he:∀a b,eq a b=true↔a=b) {l s:List α} (hs:s.Pairwise λa b=>¬c b a < 0) (hm:∀x,x∈s↔x∈l):Qa eq s=zl c l:=by
 obtain ⟨g1,g2⟩:=jd8 h he hs;obtain ⟨k1,k2⟩:=zS h l;exact jbw h g1 k1 λx=>by rw [g2,k2,hm]
end
theorem jub {α β γ:Type} {f:γ->α} {g:γ->β} {c:α->α->Int} {d:β->β->Int} (hc:Law3 c) (hd:Law3 d) (hi:∀x y,f x=f y->g x=g y->x=y):Law3 λx y:γ=>if c (f x) (f y)≠0 then c (f x) (f y) else d (g x) (g y):=by
 refine ⟨λa b=> ?_,λa b=> ?_,λa b e=> ?_⟩
 ·show (if c (f a) (f b)≠0 then c (f a) (f b) else d (g a) (g b))=0↔_;by_cases h:c (f a) (f b)=0
  ·rw [if_neg (λh'=>h' h),hd.zero];exact ⟨λh2=>hi a b ((hc.zero _ _).1 h) h2,λh2=>by rw [h2]⟩
  ·rw [if_pos h];exact ⟨λh2=>absurd h2 h,λh2=>by rw [h2] at h;exact absurd ((hc.zero _ _).2 rfl) h⟩
 ·show (if c (f b) (f a)≠0 then c (f b) (f a) else d (g b) (g a)) = -(if c (f a) (f b)≠0 then c (f a) (f b) else d (g a) (g b));rw [hc.flip (f a) (f b),hd.flip (g a) (g b)];by_cases h:c (f a) (f b)=0
  ·rw [if_neg (by omega),if_neg (by omega)]
  ·rw [if_pos (by omega),if_pos (by omega)]
 ·show (if c (f a) (f b)≠0 then c (f a) (f b) else d (g a) (g b)) < 0->(if c (f b) (f e)≠0 then c (f b) (f e) else d (g b) (g e)) < 0->(if c (f a) (f e)≠0 then c (f a) (f e) else d (g a) (g e)) < 0;by_cases h1:c (f a) (f b)=0
  ·have e1:=(hc.zero _ _).1 h1;rw [if_neg (λh'=>h' h1),e1];by_cases h2:c (f b) (f e)=0
   ·rw [if_neg (λh'=>h' h2),if_neg (λh'=>h' h2)];exact hd.trans _ _ _
   ·rw [if_pos h2,if_pos h2];exact λ_ h=>h
  ·rw [if_pos h1];by_cases h2:c (f b) (f e)=0
   ·have e2:=(hc.zero _ _).1 h2;rw [if_neg (λh'=>h' h2),<-e2,if_pos h1];exact λh _=>h
   ·rw [if_pos h2];intro h3 h4;have:=hc.trans _ _ _ h3 h4;rw [if_pos (by omega)];exact this
def jT (x y:List UInt8):Int:=if yk x y then -1 else if x=y then 0 else 1
theorem zv:Law3 jT:=by
 have irr:=ZJ;have asy:∀x y,yk x y=true->yk y x=true->False:=λx y h1 h2=>by
  rw [KA,decide_eq_true_eq] at h1 h2;exact absurd (List.lt_trans h1 h2) (List.lt_irrefl _)
 have tot:∀x y,x=y\/yk x y=true\/yk y x=true:=λx y=>by
  rw [KA,KA,decide_eq_true_eq,decide_eq_true_eq];rcases Classical.em (x < y) with h|h
  ·exact Or.inr (Or.inl h)
  rcases Classical.em (y < x) with h'|h'
  ·exact Or.inr (Or.inr h')
  ·exact Or.inl (List.le_antisymm (List.not_lt.1 h') (List.not_lt.1 h))
 have tr:∀x y z,yk x y=true->yk y z=true->yk x z=true:=λx y z h1 h2=>by
  rw [KA,decide_eq_true_eq] at *;exact List.lt_trans h1 h2
 have neg:∀x y,jT x y < 0↔yk x y=true:=λx y=>by
  unfold jT;cases h:yk x y with
  | true=>simp
  | false=>
   rw [if_neg Bool.false_ne_true];split<;>simp
 refine ⟨λa b=> ?_,λa b=> ?_,λa b d h1 h2=>(neg _ _).2 (tr _ _ _ ((neg _ _).1 h1) ((neg _ _).1 h2))⟩
 ·unfold jT;cases h:yk a b with
  | true=>rw [if_pos rfl];exact ⟨λh'=>by omega,λe=>by rw [e,irr] at h;cases h⟩
  | false=>
   rw [if_neg Bool.false_ne_true];by_cases e:a=b
   ·rw [if_pos e];exact ⟨λ_=>e,λ_=>rfl⟩
   ·rw [if_neg e];exact ⟨λh'=>by omega,λh'=>absurd h' e⟩
 ·unfold jT;rcases tot a b with e|e|e
  ·subst e;rw [irr,if_neg Bool.false_ne_true,if_pos rfl];rfl
  ·have h2:yk b a=false:=by
    cases h:yk b a with
    | false=>rfl
    | true=>exact (asy _ _ e h).elim
   have hne:¬b=a:=λh=>by rw [h,irr] at e;cases e
   rw [e,h2,if_neg Bool.false_ne_true,if_neg hne,if_pos rfl];rfl
  ·have h2:yk a b=false:=by
    cases h:yk a b with
    | false=>rfl
    | true=>exact (asy _ _ e h).elim
   have hne:¬a=b:=λh=>by rw [h,irr] at e;cases e
   rw [e,h2,if_neg Bool.false_ne_true,if_neg hne,if_pos rfl]
def jV (x y:Nat):Int:=if x < y then -1 else if y < x then 1 else 0
theorem KZ:Law3 jV:=by
 refine ⟨λa b=> ?_,λa b=> ?_,λa b d=> ?_⟩<;>unfold jV
 ·split
  ·omega
  ·split<;>omega
 ·split<;>split<;>(try split)<;>omega
 ·intro h1 h2;by_cases h:a < b
  ·by_cases h3:b < d
   ·rw [if_pos (by omega)];omega
   ·rw [if_neg h3] at h2;split at h2<;>omega
  ·rw [if_neg h] at h1;split at h1<;>omega
def vF (n:List UInt8):Nat:=if jh n then 0 else 1
abbrev Key:=Nat × (List UInt8 × Nat)
def cK (x y:Key):Int:=if jV x.1 y.1≠0 then jV x.1 y.1 else if jT x.2.1 y.2.1≠0 then jT x.2.1 y.2.1 else jV x.2.2 y.2.2
theorem yI:Law3 cK:=by
 have h2:Law3 λx y:List UInt8 × Nat=>if jT x.1 y.1≠0 then jT x.1 y.1 else jV x.2 y.2:=jub (f:=Prod.fst) (g:=Prod.snd) zv KZ λx y h1 h2=>Prod.ext h1 h2;exact jub (f:=Prod.fst) (g:=Prod.snd) KZ h2 λx y h1 h2=>Prod.ext h1 h2
def kU (t:T):Key:=(vF t.name,(t.name,t.args.length))
mutual
def kE (a b:T):Int:=
 match a with
 | .mk n us=>if cK (kU (.mk n us)) (kU b)≠0 then cK (kU (.mk n us)) (kU b) else kx us b.args
termination_by structural a
def kx (xs bs:List T):Int:=
 match xs with
 | []=>0
 | a::xs=>(match bs with | []=>0|b::bs=>if kE a b≠0 then kE a b else kx xs bs)
termination_by structural xs
end
theorem qE (a b:T):kE a b=if cK (kU a) (kU b)≠0 then cK (kU a) (kU b) else kx a.args b.args:=by cases a;rfl
theorem Q7 {a b:T} (h:kU a=kU b):a.name=b.name/\a.args.length=b.args.length:=by
 unfold kU at h;simp only [Prod.mk.injEq] at h;exact h.2
theorem ju5 {a b:T} (h1:a.name=b.name) (h2:a.args=b.args):a=b:=by
 cases a;cases b;simp only [T.name,T.args] at h1 h2;rw [h1,h2]
theorem jtm:∀ {xs bs:List T},(∀u∈xs,∀v,kE u v=0↔u=v)->xs.length=bs.length->(kx xs bs=0↔xs=bs)
 | [],[],_,_=>by simp [kx]
 | [],_::_,_,h=>by cases h
 | _::_,[],_,h=>by cases h
 | a::xs,b::bs,h,hl=>by
  rw [kx];have ih:=jtm (xs:=xs) (bs:=bs) (λu hu=>h u (by simp [hu])) (Nat.succ.inj hl);by_cases h0:kE a b=0
  ·rw [if_neg (λh'=>h' h0),ih,(h a (by simp) b).1 h0];simp
  ·rw [if_pos h0];exact ⟨λh'=>absurd h' h0,λe=>by rw [List.cons.injEq] at e;exact (h a (by simp) b).2 e.1⟩
theorem jsA:∀ {xs bs:List T},(∀u∈xs,∀v,kE v u = -(kE u v))->xs.length=bs.length->kx bs xs = -(kx xs bs)
 | [],[],_,_=>by simp [kx]
 | [],_::_,_,h=>by cases h
 | _::_,[],_,h=>by cases h
 | a::xs,b::bs,h,hl=>by
  rw [kx,kx,h a (by simp) b,jsA (xs:=xs) (bs:=bs) (λu hu=>h u (by simp [hu])) (Nat.succ.inj hl)];by_cases h0:kE a b=0
  ·rw [if_neg (by omega),if_neg (by omega)]
  ·rw [if_pos (by omega),if_pos (by omega)]
theorem jqn (z:∀u v:T,kE u v=0↔u=v):∀ {xs bs ds:List T},(∀u∈xs,∀v w,kE u v < 0->kE v w < 0->kE u w < 0)->xs.length=bs.length->bs.length=ds.length->kx xs bs < 0->kx bs ds < 0->kx xs ds < 0
 | [],_,_,_,_,_,h1,_=>by simp [kx] at h1
 | a::xs,[],_,_,h,_,_,_=>by cases h
 | a::xs,b::bs,[],_,_,h,_,_=>by cases h
 | a::xs,b::bs,d::ds,h,hl,hl2,h1,h2=>by
  rw [kx] at h1 h2 ⊢;by_cases c1:kE a b=0
  ·have e1:=(z a b).1 c1;rw [if_neg (λh'=>h' c1)] at h1;rw [e1];by_cases c2:kE b d=0
   ·rw [if_neg (λh'=>h' c2)] at h2;rw [if_neg (λh'=>h' c2)];exact jqn z (λu hu=>h u (by simp [hu])) (Nat.succ.inj hl) (Nat.succ.inj hl2) h1 h2
   ·rw [if_pos c2] at h2;rw [if_pos c2];exact h2
  ·rw [if_pos c1] at h1;by_cases c2:kE b d=0
   ·rw [<-(z b d).1 c2,if_pos c1];exact h1
   ·rw [if_pos c2] at h2;have:=h a (by simp) b d h1 h2;rw [if_pos (by omega)];exact this
theorem Y9:Law3 kE:=by
 have z:∀a b:T,kE a b=0↔a=b:=by
  refine T.ind λa ih b=> ?_;rw [qE];by_cases h:cK (kU a) (kU b)=0
  ·have hk:=(yI.zero _ _).1 h;obtain ⟨h1,h2⟩:=Q7 hk;rw [if_neg (λh'=>h' h),jtm ih h2];exact ⟨λe=>ju5 h1 e,λe=>by rw [e]⟩
  ·rw [if_pos h];exact ⟨λh'=>absurd h' h,λe=>by rw [e] at h;exact absurd ((yI.zero _ _).2 rfl) h⟩
 refine ⟨z,?_,?_⟩
 ·refine T.ind λa ih b=> ?_;rw [qE,qE a b,yI.flip (kU a) (kU b)];by_cases h:cK (kU a) (kU b)=0
  ·obtain ⟨_,h2⟩:=Q7 ((yI.zero _ _).1 h);rw [if_neg (by omega),if_neg (by omega),jsA ih h2]
  ·rw [if_pos (by omega),if_pos (by omega)]
 ·refine T.ind λa ih b d h1 h2=> ?_;rw [qE] at h1 h2 ⊢;by_cases c1:cK (kU a) (kU b)=0
  ·have e1:=(yI.zero _ _).1 c1;rw [if_neg (λh'=>h' c1)] at h1;rw [e1];by_cases c2:cK (kU b) (kU d)=0
   ·have e2:=(yI.zero _ _).1 c2;rw [if_neg (λh'=>h' c2)] at h2;rw [if_neg (λh'=>h' c2)];exact jqn z ih (Q7 e1).2 (Q7 e2).2 h1 h2
   ·rw [if_pos c2] at h2;rw [if_pos c2];exact h2
  ·rw [if_pos c1] at h1;by_cases c2:cK (kU b) (kU d)=0
   ·rw [<-(yI.zero _ _).1 c2,if_pos c1];exact h1
   ·rw [if_pos c2] at h2;have:=yI.trans _ _ _ h1 h2;rw [if_pos (by omega)];exact this
def upN:List UInt8->Bool
 | []=>false
 | c::_=>YG c
mutual
def val (M:List UInt8->List Int->Int) (e:List UInt8->Int):T->Int
 | .mk n us=>if us.isEmpty && upN n then e n else M n (jsi M e us)
def jsi (M:List UInt8->List Int->Int) (e:List UInt8->Int):List T->List Int
 | []=>[]
 | t::ts=>val M e t::jsi M e ts
end
theorem jiW (M:List UInt8->List Int->Int) (e:List UInt8->Int):∀ts:List T,jsi M e ts=ts.map (val M e)
 | []=>rfl
 | t::ts=>by rw [jsi,jiW M e ts,List.map_cons]
theorem jdE (M:List UInt8->List Int->Int) (e:List UInt8->Int) (t:T):val M e t=if t.args.isEmpty && upN t.name then e t.name else M t.name (t.args.map (val M e)):=by
 obtain ⟨n,us⟩:=t;rw [val,jiW];rfl
theorem jgx {n:List UInt8} (h:jh n=true):upN n=true:=by
 cases n with
 | nil=>cases h
 | cons c r=>simp only [jh,Bool.and_eq_true] at h;exact h.1
theorem jbP {n:List UInt8} (h:zZ n=true):upN n=false:=by
 cases n with
 | nil=>rfl
 | cons c r=>
  simp only [zZ,Bool.and_eq_true] at h;have h:=h.1;show YG c=false;cases hu:YG c with
  | false=>rfl
  | true=>
   simp only [YG,ZR,KP,Bool.and_eq_true,decide_eq_true_eq] at h hu;omega
theorem jj3 {t:T} (h:zO t=true) (hv:jh t.name=false):zZ t.name=true:=by
 rw [ya,hv,if_neg Bool.false_ne_true,Bool.and_eq_true] at h;exact h.1
section
variable {M:List UInt8->List Int->Int}
theorem jgA {e:List UInt8->Int} {t:T} (h:zO t=true) (hv:jh t.name=true):val M e t=e t.name:=by
 rw [jdE,Zs h hv,jgx hv];rfl
theorem jbQ {e:List UInt8->Int} {t:T} (h:upN t.name=false):val M e t=M t.name (t.args.map (val M e)):=by
 rw [jdE,h,Bool.and_false,if_neg Bool.false_ne_true]
theorem jeS {e e':List UInt8->Int} :∀t:T,zO t=true->(∀x∈kP t,e x=e' x)->val M e t=val M e' t:=by
 refine T.ind λt ih=> ?_;intro ht h;rw [kS] at h;cases hv:jh t.name with
 | true=>
  rw [jgA ht hv,jgA ht hv];rw [hv,if_pos rfl] at h;exact h _ (by simp)
 | false=>
  have hs:=jbP (jj3 ht hv);rw [jbQ hs,jbQ hs];rw [hv,if_neg Bool.false_ne_true] at h;congr 1;refine List.map_congr_left λa ha=>ih a ha (zH ht a ha) λx hx=>h x ?_;have:∀us:List T,a∈us->x∈j8 us:=by
   intro us;induction us with
   | nil=>intro h;cases h
   | cons v vs ih=>
    intro h;rw [j8];rcases List.mem_cons.1 h with rfl|h
    ·exact List.mem_append_left _ hx
    ·exact List.mem_append_right _ (ih h)
  exact this _ ha
def Ext (m m':jz):Prop:=∀x r,look m x=some r->look m' x=some r
theorem Ext.refl (m:jz):Ext m m:=λ_ _ h=>h
theorem Ext.trans {a b c:jz} (h:Ext a b) (h':Ext b c):Ext a c:=λx r hx=>h' x r (h x r hx)
variable {good:Int->Prop}
theorem jiX (hM:∀n vs,good (M n vs)) {e:List UInt8->Int} (he:∀x,good (e x)) (t:T):good (val M e t):=by
 rw [jdE];split
 ·exact he _
 ·exact hM _ _
def jyv (M:List UInt8->List Int->Int) (good:Int->Prop) (rs:List T):Prop:=∀r∈rs,∀e:List UInt8->Int,(∀x,good (e x))->val M e (jbk r)=val M e (jbn r)
end
def dec (n:Nat):Nat->Nat->List Nat
 | 0,_=>[]
 | l+1,k=>k % n::dec n l (k / n)
def enc (n:Nat):List Nat->Nat
 | []=>0
 | v::vs=>v+n * enc n vs
theorem jox {n:Nat} (hn:1<=n):∀vs:List Nat,(∀v∈vs,v < n)->enc n vs < n ^ vs.length
 | [],_=>by simp [enc]
 | v::vs,h=>by
  have h1:=h v (by simp);have h2:=jox hn vs λw hw=>h w (by simp [hw]);rw [enc,List.length_cons,Nat.pow_succ,Nat.mul_comm (n ^ vs.length) n];have:n * (enc n vs+1)<=n * n ^ vs.length:=Nat.mul_le_mul_left n h2;rw [Nat.mul_add] at this;omega
theorem jk9 {n:Nat} (hn:1<=n):∀vs:List Nat,(∀v∈vs,v < n)->dec n vs.length (enc n vs)=vs
 | [],_=>rfl
 | v::vs,h=>by
  have h1:=h v (by simp);have h2:=jk9 hn vs λw hw=>h w (by simp [hw]);rw [List.length_cons,dec,enc,Nat.add_mul_mod_self_left,Nat.mod_eq_of_lt h1,Nat.add_mul_div_left _ _ (by omega),Nat.div_eq_of_lt h1,Nat.zero_add,h2]
def Kd (l:List (List UInt8)) (n:List UInt8):List (List UInt8):=if l.contains n then l else l++[n]
mutual
def vn (l:List (List UInt8)):T->List (List UInt8)
 | .mk n us=>if us.isEmpty && upN n then Kd l n else vnL l us
def vnL (l:List (List UInt8)):List T->List (List UInt8)
 | []=>l
 | t::ts=>vnL (vn l t) ts
end
theorem ji0 (l:List (List UInt8)) (t:T):vn l t=if t.args.isEmpty && upN t.name then Kd l t.name else vnL l t.args:=by cases t;rfl
def VIn (S:List (List UInt8)) (t:T):Prop:=∀x∈kP t,x∈S
theorem jnM {S l:List (List UInt8)} {n:List UInt8} (hl:l.Nodup) (hS:∀x∈l,x∈S) (hn:n∈S):(Kd l n).Nodup/\(∀x∈Kd l n,x∈S)/\(∀x∈l,x∈Kd l n)/\n∈Kd l n:=by
 unfold Kd;split
 ·rename_i h;exact ⟨hl,hS,λ_ h=>h,List.contains_iff_mem.1 h⟩
 ·rename_i h;have h:n ∉ l:=λhh=>h (List.contains_iff_mem.2 hh);refine ⟨?_,λx hx=> ?_,λx hx=>List.mem_append_left _ hx,by simp⟩
  ·rw [List.nodup_append];exact ⟨hl,by simp,λa ha b hb=>by simp only [List.mem_singleton] at hb;subst hb;exact λe=>h (e ▸ ha)⟩
  ·rcases List.mem_append.1 hx with hx|hx
   ·exact hS x hx
   ·simp only [List.mem_singleton] at hx;exact hx ▸ hn
theorem jdF {S:List (List UInt8)} :∀(t:T),zO t=true->VIn S t-> ∀l:List (List UInt8),l.Nodup->(∀x∈l,x∈S)->(vn l t).Nodup/\(∀x∈vn l t,x∈S)/\(∀x∈l,x∈vn l t)/\ ∀x∈kP t,x∈vn l t:=by
 refine T.ind λt ih=> ?_;intro ht hV l hl hS;rw [ji0];unfold VIn at hV;rw [kS] at hV ⊢;cases hv:jh t.name with
 | true=>
  rw [hv,if_pos rfl] at hV;rw [Zs ht hv,jgx hv,if_pos rfl];obtain ⟨q1,q2,q3,q4⟩:=jnM hl hS (hV t.name (by simp));exact ⟨q1,q2,q3,λx hx=>by simp only [if_true,List.mem_singleton] at hx;exact hx ▸ q4⟩
 | false=>
  rw [hv,if_neg Bool.false_ne_true] at hV;rw [jbP (jj3 ht hv),Bool.and_false,if_neg Bool.false_ne_true];have key:∀us:List T,(∀u∈us,u∈t.args)->(∀x∈j8 us,x∈S)-> ∀l:List (List UInt8),l.Nodup->(∀x∈l,x∈S)->(vnL l us).Nodup/\(∀x∈vnL l us,x∈S)/\(∀x∈l,x∈vnL l us)/\ ∀x∈j8 us,x∈vnL l us:=by
   intro us;induction us with
   | nil=>intro _ _ l hl hS;exact ⟨hl,hS,λ_ h=>h,λx h=>by cases h⟩
   | cons u us ih2=>
    intro hu hV l hl hS;rw [j8] at hV;obtain ⟨q1,q2,q3,q4⟩:=ih u (hu u (by simp)) (zH ht u (hu u (by simp))) (λx hx=>hV x (List.mem_append_left _ hx)) l hl hS;obtain ⟨p1,p2,p3,p4⟩:=ih2 (λv hv=>hu v (by simp [hv])) (λx hx=>hV x (List.mem_append_right _ hx)) (vn l u) q1 q2;rw [vnL,j8];refine ⟨p1,p2,λx hx=>p3 x (q3 x hx),λx hx=> ?_⟩;rcases List.mem_append.1 hx with hx|hx
    ·exact p3 x (q4 x hx)
    ·exact p4 x hx
  exact key t.args (λ_ h=>h) hV l hl hS
abbrev Lt:=Bool × T
def fl (b:Bool):Nat:=if b then 1 else 0
def cmpL (a b:Lt):Int:=if kE a.2 b.2≠0 then kE a.2 b.2 else jV (fl a.1) (fl b.1)
theorem kK:Law3 cmpL:=jub (f:=Prod.snd) (g:=λl:Lt=>fl l.1) Y9 KZ λx y h1 h2=>by
 obtain ⟨p,t⟩:=x;obtain ⟨q,u⟩:=y;have h1:t=u:=h1;have h2:fl p=fl q:=h2;subst h1;cases p<;>cases q<;>first|rfl|(simp [fl] at h2)
abbrev jK:=List Lt
def jgT:jK->Bool
 | a::b::l=>decide (cmpL a b < 0) && jgT (b::l)
 | _=>true
theorem jb4:∀c:jK,jgT c=true↔Asc cmpL c
 | []=>by simp [jgT,Asc]
 | [a]=>by simp [jgT,Asc]
 | a::b::l=>by
  rw [jgT,Bool.and_eq_true,decide_eq_true_eq,jb4 (b::l)];unfold Asc;constructor
  ·rintro ⟨h1,h2⟩;refine List.pairwise_cons.2 ⟨λx hx=> ?_,h2⟩;rcases List.mem_cons.1 hx with e|e
   ·rw [e];exact h1
   ·exact kK.trans a b x h1 ((List.pairwise_cons.1 h2).1 x e)
  ·intro h;exact ⟨(List.pairwise_cons.1 h).1 b (by simp),(List.pairwise_cons.1 h).2⟩
mutual
def yt (l:List (List UInt8)):T->List (List UInt8)
 | .mk n us=>if jh n then Kd l n else Ko l us
def Ko (l:List (List UInt8)):List T->List (List UInt8)
 | []=>l
 | t::ts=>Ko (yt l t) ts
end
theorem jf7 (l:List (List UInt8)) (t:T):yt l t=if jh t.name then Kd l t.name else Ko l t.args:=by cases t;rfl
def ji (c:jK):List (List UInt8):=c.foldl (λl x=>yt l x.2) []
def kw (p:UInt8) (i:Nat):List UInt8:=p::Lib.decDigits i
def zf (c:jK):Bool:=decide (ji c=(List.range (ji c).length).map (kw 88))
mutual
def jB (f:List UInt8->List UInt8):T->T
 | .mk n us=>if jh n then .mk (f n) [] else .mk n (zd f us)
def zd (f:List UInt8->List UInt8):List T->List T
 | []=>[]
 | t::ts=>jB f t::zd f ts
end
theorem Jm (f:List UInt8->List UInt8):∀ts:List T,zd f ts=ts.map (jB f)
 | []=>rfl
 | t::ts=>by rw [zd,Jm f ts,List.map_cons]
theorem JB (f:List UInt8->List UInt8) (t:T):jB f t=if jh t.name then .mk (f t.name) [] else .mk t.name (t.args.map (jB f)):=by
 cases t;rw [jB,Jm];rfl
def jF (p:UInt8) (l:List (List UInt8)) (n:List UInt8):List UInt8:=match l.findIdx? (λx=>decide (x=n)) with|some i=>kw p i|none=>n
def renC (p:UInt8) (c:jK):jK:=zl cmpL (c.map λl=>(l.1,jB (jF p (ji c)) l.2))
def normF:Nat->jK->jK
 | 0,c=>c
 | k+1,c=>if zf c then c else normF k (renC 88 c)
def normC (c:jK):jK:=normF 10 c
theorem Q6 (t:T) (h:zO t=true\/t.name = [61]):G 141 [tm t]=some (vb (jh t.name),[]):=by
 rcases h with h|h
 ·exact jcx t h
 ·have e1:=Kk 61;have hx:j6 (sv t.name) (vi 0)=some (vy ((61:UInt8).toNat:Int)):=by rw [h];exact kZ
  have hv:jh t.name=YG 61:=by rw [h];decide
  rw [jt5,hv];simp only [jf,hx,e1]
theorem Kh (x y:List UInt8):jT x y=if yk x y then -1 else if yk y x then 1 else 0:=by
 have hf:=zv.flip x y;cases h1:yk x y with
 | true=>unfold jT;rw [h1];rfl
 | false=>
  rw [if_neg Bool.false_ne_true];cases h2:yk y x with
  | true=>
   have:jT y x = -1:=by unfold jT;rw [h2,if_pos rfl]
   rw [if_pos rfl];omega
  | false=>
   rw [if_neg Bool.false_ne_true];have a1:jT x y=0\/jT x y=1:=by
    unfold jT;rw [h1,if_neg Bool.false_ne_true];split<;>simp
   have a2:jT y x=0\/jT y x=1:=by
    unfold jT;rw [h2,if_neg Bool.false_ne_true];split<;>simp
   omega
theorem jeu (b:Bool) (x y:List UInt8):js .gtr b (sv x) (sv y)=some (vb (yk y x)):=by
 show some (vb (!(yk x y || decide (x=y))))=_;by_cases e:x=y
 ·subst e;rw [ZJ,decide_eq_true rfl];rfl
 have h1:=Kh x y;have h3:=zv.flip x y;have h4:=Kh y x;rw [decide_eq_false e,Bool.or_false];cases a:yk x y<;>cases c:yk y x<;>rw [a,c] at h1 h4
 ·exact absurd ((zv.zero x y).1 h1) e
 ·rfl
 ·rfl
 ·have h1:jT x y = -1:=h1;have h4:jT y x = -1:=h4;omega
theorem jaI (x y:List UInt8):G 134 [sv x,sv y]=some (vi (jT x y),[]):=by
 have n1:G 174 [sv x]=some (vb false,[]):=by rw [jvG];simp only [jf]
 have n2:G 174 [sv y]=some (vb false,[]):=by rw [jvG];simp only [jf]
 rw [jxs,Kh];cases h1:yk x y<;>cases h2:yk y x<;>simp only [jf,n1,n2,jeu,h1,h2]
theorem jaH (x y:Nat):G 117 [vi (x:Nat),vi (y:Nat)]=some (vi (jV x y),[]):=by
 have n1:G 162 [vi (x:Nat)]=some (vb false,[]):=by rw [jvF];simp only [jf]
 have n2:G 162 [vi (y:Nat)]=some (vb false,[]):=by rw [jvF];simp only [jf]
 rw [jxh];unfold jV;by_cases h1:x < y
 ·have h1':((x:Nat):Int) < ((y:Nat):Int):=by omega
  rw [if_pos h1];simp only [jf,n1,n2,h1']
 ·have h1':¬((x:Nat):Int) < ((y:Nat):Int):=by omega
  rw [if_neg h1];by_cases h2:y < x
  ·have h2':((y:Nat):Int) < ((x:Nat):Int):=by omega
   rw [if_pos h2];simp only [jf,n1,n2,h1',h2']
  ·have h2':¬((y:Nat):Int) < ((x:Nat):Int):=by omega
   rw [if_neg h2];simp only [jf,n1,n2,h1',h2']
theorem jpy (a b:Int):G 115 [.sl 1 [[vi a],[vi b]]]=some (vi (if a≠0 then a else b),[]):=by
 have i0:ju 1 (.sl 1 [[vi a],[vi b]]) (vi 0)=some (.elt [vi a] 0):=rfl;have i1:ju 1 (.sl 1 [[vi a],[vi b]]) (vi 1)=some (.elt [vi b] 0):=rfl;have ll:qB (.sl 1 [[vi a],[vi b]])=some (vi 2):=rfl;have c0:js .add false (vi 0) (vi 1)=some (vi 1):=by rw [J9,jH (by decide) (by decide)];rfl
 have c1:js .add false (vi 1) (vi 1)=some (vi 2):=by rw [J9,jH (by decide) (by decide)];rfl
 have z0:(0:Int) < 2:=by decide
 have z1:(1:Int) < 2:=by decide
 have z2:¬(2:Int) < 2:=by decide
 generalize A.sl 1 [[vi a],[vi b]]=X at *;have k2:jbV (vi 0) X (vi 2) (vi 2)=some (vi 0,[]):=by rw [jjM];simp only [jf,z2]
 have k1:jbV (vi 0) X (vi 2) (vi 1)=some (vi b,[]):=by
  rw [jjM];by_cases hb:b=0
  ·simp only [jf,z1,i1,hb,c1,k2]
  ·simp only [jf,z1,i1,hb]
 rw [jxf];simp only [cev];rw [ll,Option.bind_some,jjM];by_cases ha:a=0
 ·rw [if_neg (λh=>h ha)];simp only [jf,z0,i0,ha,c0,k1]
 ·rw [if_pos ha];simp only [jf,z0,i0,ha]
end Go.Proofs.YtdbgbieenhcldaaGreatDoor
