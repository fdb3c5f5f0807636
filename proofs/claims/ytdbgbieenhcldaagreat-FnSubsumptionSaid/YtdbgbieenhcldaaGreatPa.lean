/- Pa -/
import Derived.Test.YtdbgbieenhcldaaGreatKt
import Derived.Test.YtdbgbieenhcldaaGreatPq
import Derived.Test.YtdbgbieenhcldaaGreatEd
import Derived.ChangeSame
import Derived.Sort.Walk0
namespace Go.Proofs.YtdbgbieenhcldaaGreat
open Go Go.RowKit Go.Proofs.YtdbgbieenhcldaaGreat.Abs
set_option linter.unusedSimpArgs false
set_option linter.unusedVariables false
abbrev ci (n:Int):List A:=[vi n]
abbrev cs (s:List UInt8):List A:=[sv s]
abbrev ints (l:List Int):A:= .sl 1 (l.map ci)
abbrev strs (l:List (List UInt8)):A:= .sl 1 (l.map cs)
section
theorem jf0 {α:Type} (x y:α):brn true x y=x:=rfl
theorem Qx {α:Type} (x y:α):brn false x y=y:=rfl
theorem jpm {α:Type} (b:Bool) (x y:α):brn b x y=if b=true then x else y:=rfl
theorem jqe:(-1:Int) < 0:=by decide
theorem jch (b:Bool):zi (vb b)=some b:=rfl
theorem jgY (b:Bool) (x y:A):yr (vb b) x y=some (if b=true then x else y):=rfl
theorem jrP (b w:Bool) (x:Option A):pG (vb b) w x=if b=w then x else some (.val undef):=rfl
theorem jg3 (b w:Bool):yF (vb b) w=some (decide (b=w)):=rfl
theorem joi (w:Bool) (x:Option A):pG (.val undef) w x=some (.val undef):=rfl
theorem jg2 (w:Bool):yF (.val undef) w=some false:=rfl
theorem jok (k:Nat) (xs:List (List A)):yq (.sl k xs)=some (vi xs.length):=rfl
theorem jkA (xs:List (List A)):zW xs=vi xs.length:=rfl
theorem jcu (xs:List (List A)):jw xs=xs.length:=rfl
theorem K3 (l:List UInt8):K2 (sv l)=some (vi l.length):=rfl
theorem jgg (a:A):fin false (a,[])=some a:=rfl
theorem jsv (b c:Bool):fin c (vb b,[])=some (vb b):=by cases c<;>rfl
theorem jsw (c:Bool) (n:Int):fin c (vi n,[])=some (vi n):=by cases c<;>rfl
theorem jqq (b:Bool):K6 .not (vb b)=some (vb (!b)):=rfl
theorem jgU (b:Bool) (x y:Int):js .lss b (vi x) (vi y)=some (vb (decide (x < y))):=rfl
theorem joc (b:Bool) (x y:Int):js .leq b (vi x) (vi y)=some (vb (decide (x<=y))):=rfl
theorem job (b:Bool) (x y:Int):js .gtr b (vi x) (vi y)=some (vb (decide (y < x))):=rfl
theorem joa (b:Bool) (x y:Int):js .geq b (vi x) (vi y)=some (vb (decide (y<=x))):=rfl
theorem jn9 (b:Bool) (x y:Int):js .eql b (vi x) (vi y)=some (vb (decide (x=y))):=rfl
theorem joe (b:Bool) (x y:Int):js .neq b (vi x) (vi y)=some (vb (!decide (x=y))):=rfl
theorem jlH (b:Bool) (x y:Int):js .lss b (vy x) (vy y)=some (vb (decide (x < y))):=rfl
theorem jlG (b:Bool) (x y:Int):js .leq b (vy x) (vy y)=some (vb (decide (x<=y))):=rfl
theorem jlF (b:Bool) (x y:Int):js .gtr b (vy x) (vy y)=some (vb (decide (y < x))):=rfl
theorem jlE (b:Bool) (x y:Int):js .geq b (vy x) (vy y)=some (vb (decide (y<=x))):=rfl
theorem jlD (b:Bool) (x y:Int):js .eql b (vy x) (vy y)=some (vb (decide (x=y))):=rfl
theorem jlI (b:Bool) (x y:Int):js .neq b (vy x) (vy y)=some (vb (!decide (x=y))):=rfl
theorem jlJ (x y:Bool):js .eql true (vb x) (vb y)=some (vb (decide (x=y))):=rfl
theorem jlK (x y:Bool):js .neq true (vb x) (vb y)=some (vb (!decide (x=y))):=rfl
theorem J2 (b:Bool) (x y:Int):js .add b (vi x) (vi y)=ck (x+y):=by cases b<;>rfl
theorem jgV (b:Bool) (x y:Int):js .sub b (vi x) (vi y)=ck (x - y):=by cases b<;>rfl
theorem jod (b:Bool) (x y:Int):js .mul b (vi x) (vi y)=ck (x * y):=by cases b<;>rfl
theorem jE {n:Int} (h1: -9223372036854775808<=n) (h2:n<=9223372036854775807):ck n=some (vi n):=if_pos ⟨h1,h2⟩
theorem QI (b:Bool) (x y:List UInt8):js .add b (sv x) (sv y)=if x.length+y.length<=9223372036854775807 then some (sv (x++y)) else none:=by cases b<;>rfl
theorem QJ (b:Bool) (x y:List UInt8):js .eql b (sv x) (sv y)=some (vb (decide (x=y))):=rfl
theorem jlO (b:Bool) (x y:List UInt8):js .neq b (sv x) (sv y)=some (vb (!decide (x=y))):=rfl
theorem jlN (b:Bool) (x y:List UInt8):js .lss b (sv x) (sv y)=some (vb (kQ x y)):=rfl
theorem jom (a:A) (l:List A):kZ (.elt (a::l) 0)=some a:=rfl
theorem qh (cs:List A) (off n:Nat):zU (.elt cs off) n=some (.elt cs (off+n)):=rfl
theorem jiP (off:Nat) (cs:List A):jcj off (.agg cs)=cs[off]? :=rfl
theorem jiO (n:Nat) (ds:List A):K1 n (.agg ds)=if ds.length=n/\ds.all jP=true then some ds else none:=rfl
theorem jk3 (a:A) (l:List A):jc (a::l) 0=a:=rfl
theorem jm4 (a b:A) (l:List A):jc (a::b::l) 1=b:=rfl
theorem jm5 (a b c:A) (l:List A):jc (a::b::c::l) 2=c:=rfl
theorem jic (a b c d:A) (l:List A):jc (a::b::c::d::l) 3=d:=rfl
theorem jnZ (k:Nat) (xs:List (List A)):jP (.sl k xs)=true:=rfl
theorem jqi (cs:List A) (o:Nat):jP (.elt cs o)=true:=rfl
theorem jsI (f:FuncId) (l:List A):jP (.fn f l)=true:=rfl
theorem jsL (n:Int):jP (vi n)=true:=rfl
theorem jsK (b:Bool):jP (vb b)=true:=rfl
theorem jsJ (l:List UInt8):jP (sv l)=true:=rfl
theorem jsQ (n:Nat) (i:Int):KE n (vi i)=if 0<=i/\i < (n:Int) then some i.toNat else none:=rfl
theorem ze {n i:Nat} (h:i < n):KE n (vi i)=some i:=by
 rw [jsQ,if_pos ⟨by omega,by omega⟩];simp
theorem jop (k:Nat) (xs:List (List A)):K5 k (.sl k xs)=some xs:=if_pos rfl
theorem jsS (a:A) (l:List A):Km (.tup (a::l)) 0=some a:=rfl
theorem jsT (a b:A) (l:List A):Km (.tup (a::b::l)) 1=some b:=rfl
theorem jsU (a b c:A) (l:List A):Km (.tup (a::b::c::l)) 2=some c:=rfl
theorem jqo (x y:Int):jiQ (vi x) (vi y)=some (vi (if x < y then y else x)):=by
 unfold jiQ;simp
theorem jqp (x y:Int):jlP (vi x) (vi y)=some (vi (if y < x then y else x)):=by
 unfold jlP;simp
theorem juc (a:A) (l:List A) (i:Nat):hD (a,l) i=l[i]? :=rfl
theorem jv7 (k:Nat) (a:A) (xs:List (List A)) (l:List A):hR k (a,.sl k xs::l) 0=some xs:=by simp [hR]
theorem jv8 (k:Nat) (a b:A) (xs:List (List A)) (l:List A):hR k (a,b:: .sl k xs::l) 1=some xs:=by simp [hR]
theorem jv9 (k:Nat) (a b c:A) (xs:List (List A)) (l:List A):hR k (a,b::c:: .sl k xs::l) 2=some xs:=by simp [hR]
theorem qb {f:FuncId} {caps args:List A} {c:Bool} (h:K.pureF f=true):DX.run K (MM K) (.callc (.fn f caps) args c)=(G f (args++caps)).bind (fin c):=by
 simp only [DX.run,h,if_true]
theorem jb {α:Type} {k:Nat} {f:α->List A} {xs:List α} {i:Nat} (h:i < xs.length):jh k (.sl k (xs.map f)) (vi i)=some (.elt (f xs[i]) 0):=by
 simp only [jh,if_true,List.length_map,ze h,Option.map_some];simp [List.getD_eq_getElem?_getD,h]
theorem jz {i n:Nat} (h:i < n) (hn:n<=9223372036854775807):js .add false (vi i) (vi 1)=some (vi ((i+1:Nat):Int)):=by
 rw [J2,jE (by omega) (by omega)];rfl
theorem juv (d top:Nat) (z:Int):pB d top (some (vi z))=if 0<=z/\z<=(top:Int) then some z.toNat else none:=rfl
theorem Qc {d top n:Nat} (h:n<=top):pB d top (some (vi n))=some n:=by
 rw [juv,if_pos ⟨by omega,by omega⟩];simp
theorem Jc {d top:Nat} (h:d<=top):pB d top none=some d:=if_pos h
theorem jqt (xs:List (List A)):yV xs=xs.length:=rfl
theorem ja4 (xs:List (List A)) (off:Nat):qi xs off=xs.length - off:=rfl
theorem jkB (xs:List (List A)) (off n:Nat):yl xs off n=(xs.drop off).take n:=rfl
theorem jhg (xs:List (List A)) (off:Nat) (ys:List (List A)):yc xs off ys=xs.take off++ys++xs.drop (off+ys.length):=rfl
theorem qE (a b:Nat):zo a b=a - b:=rfl
theorem upto {P:Nat->Prop} {n:Nat} (h0:P n) (hs:∀i,i < n->P (i+1)->P i):∀i,i<=n->P i:=by
 intro i hi;obtain ⟨k,hk⟩:∃k,n=i+k:=⟨n - i,by omega⟩;induction k generalizing i with
 | zero=>rw [show i=n by omega];exact h0
 | succ k ih=>exact hs i (by omega) (ih (i+1) (by omega) (by omega))
theorem jl {α:Type} {xs:List α} {i:Nat} (h:i < xs.length):xs.drop i=xs[i]::xs.drop (i+1):=List.drop_eq_getElem_cons h
theorem evs :
  ((-1:Int) < 0)/\
  (∀ {α:Type} (x y:α),brn true x y=x)/\
  (∀ {α:Type} (x y:α),brn false x y=y)/\
  (∀ {α:Type} (b:Bool) (x y:α),brn b x y=if b=true then x else y)/\
  (∀ {α β:Type} (a:α) (f:α->Option β),(some a).bind f=f a)/\
  (∀ {α β:Type} (f:α->Option β),none.bind f=none)/\
  (∀(b:Bool),zi (vb b)=some b)/\
  (∀(b:Bool) (x y:A),yr (vb b) x y=some (if b=true then x else y))/\
  (∀(b w:Bool) (x:Option A),pG (vb b) w x=if b=w then x else some (A.val undef))/\
  (∀(b w:Bool),yF (vb b) w=some (decide (b=w)))/\
  (∀(w:Bool) (x:Option A),pG (A.val undef) w x=some (A.val undef))/\
  (∀(w:Bool),yF (A.val undef) w=some false)/\
  (∀(k:Nat) (xs:List (List A)),yq (A.sl k xs)=some (vi ↑xs.length))/\
  (∀(xs:List (List A)),zW xs=vi ↑xs.length)/\
  (∀(xs:List (List A)),jw xs=xs.length)/\
  (∀(l:List UInt8),K2 (sv l)=some (vi ↑l.length))/\
  (∀(a:A),fin false (a,[])=some a)/\
  (∀(b c:Bool),fin c (vb b,[])=some (vb b))/\
  (∀(c:Bool) (n:Int),fin c (vi n,[])=some (vi n))/\
  (∀(b:Bool),K6 UnOp.not (vb b)=some (vb !b))/\
  (∀(b:Bool) (x y:Int),js BinOp.lss b (vi x) (vi y)=some (vb (decide (x < y))))/\
  (∀(b:Bool) (x y:Int),js BinOp.leq b (vi x) (vi y)=some (vb (decide (x<=y))))/\
  (∀(b:Bool) (x y:Int),js BinOp.gtr b (vi x) (vi y)=some (vb (decide (y < x))))/\
  (∀(b:Bool) (x y:Int),js BinOp.geq b (vi x) (vi y)=some (vb (decide (y<=x))))/\
  (∀(b:Bool) (x y:Int),js BinOp.eql b (vi x) (vi y)=some (vb (decide (x=y))))/\
  (∀(b:Bool) (x y:Int),js BinOp.neq b (vi x) (vi y)=some (vb !decide (x=y)))/\
  (∀(b:Bool) (x y:Int),js BinOp.lss b (vy x) (vy y)=some (vb (decide (x < y))))/\
  (∀(b:Bool) (x y:Int),js BinOp.leq b (vy x) (vy y)=some (vb (decide (x<=y))))/\
  (∀(b:Bool) (x y:Int),js BinOp.gtr b (vy x) (vy y)=some (vb (decide (y < x))))/\
  (∀(b:Bool) (x y:Int),js BinOp.geq b (vy x) (vy y)=some (vb (decide (y<=x))))/\
  (∀(b:Bool) (x y:Int),js BinOp.eql b (vy x) (vy y)=some (vb (decide (x=y))))/\
  (∀(b:Bool) (x y:Int),js BinOp.neq b (vy x) (vy y)=some (vb !decide (x=y)))/\
  (∀(x y:Bool),js BinOp.eql true (vb x) (vb y)=some (vb (decide (x=y))))/\
  (∀(x y:Bool),js BinOp.neq true (vb x) (vb y)=some (vb !decide (x=y)))/\
  (∀(b:Bool) (x y:Int),js BinOp.add b (vi x) (vi y)=ck (x+y))/\
  (∀(b:Bool) (x y:Int),js BinOp.sub b (vi x) (vi y)=ck (x - y))/\
  (∀(b:Bool) (x y:Int),js BinOp.mul b (vi x) (vi y)=ck (x * y))/\
  (∀(b:Bool) (x y:List UInt8),js BinOp.eql b (sv x) (sv y)=some (vb (decide (x=y))))/\
  (∀(b:Bool) (x y:List UInt8),js BinOp.neq b (sv x) (sv y)=some (vb !decide (x=y)))/\
  (∀(b:Bool) (x y:List UInt8),js BinOp.lss b (sv x) (sv y)=some (vb (kQ x y)))/\
  (∀(a:A) (l:List A),kZ (A.elt (a::l) 0)=some a)/\
  (∀(cs:List A) (off n:Nat),zU (A.elt cs off) n=some (A.elt cs (off+n)))/\
  (∀(off:Nat) (cs:List A),jcj off (A.agg cs)=cs[off]?)/\
  (∀(n:Nat) (ds:List A),K1 n (A.agg ds)=if ds.length=n/\ds.all jP=true then some ds else none)/\
  (∀(a:A) (l:List A),jc (a::l) 0=a)/\
  (∀(a b:A) (l:List A),jc (a::b::l) 1=b)/\
  (∀(a b c:A) (l:List A),jc (a::b::c::l) 2=c)/\
  (∀(a b c d:A) (l:List A),jc (a::b::c::d::l) 3=d)/\
  (∀(k:Nat) (xs:List (List A)),jP (A.sl k xs)=true)/\
  (∀(cs:List A) (o:Nat),jP (A.elt cs o)=true)/\
  (∀(f:FuncId) (l:List A),jP (A.fn f l)=true)/\
  (∀(n:Int),jP (vi n)=true)/\
  (∀(b:Bool),jP (vb b)=true)/\
  (∀(l:List UInt8),jP (sv l)=true)/\
  (∀(k:Nat) (xs:List (List A)),K5 k (A.sl k xs)=some xs)/\
  (∀(a:A) (l:List A),Km (A.tup (a::l)) 0=some a)/\
  (∀(a b:A) (l:List A),Km (A.tup (a::b::l)) 1=some b)/\
  (∀(a b c:A) (l:List A),Km (A.tup (a::b::c::l)) 2=some c)/\
  (∀(x y:Int),jiQ (vi x) (vi y)=some (vi (if x < y then y else x)))/\
  (∀(x y:Int),jlP (vi x) (vi y)=some (vi (if y < x then y else x)))/\
  (∀(a:A) (l:List A) (i:Nat),hD (a,l) i=l[i]?)/\
  (∀(k:Nat) (a:A) (xs:List (List A)) (l:List A),hR k (a,A.sl k xs::l) 0=some xs)/\
  (∀(k:Nat) (a b:A) (xs:List (List A)) (l:List A),hR k (a,b::A.sl k xs::l) 1=some xs)/\
  (∀(k:Nat) (a b c:A) (xs:List (List A)) (l:List A),hR k (a,b::c::A.sl k xs::l) 2=some xs)/\
  (∀ {α:Type} {a:α} {l:List α} {f:α->Bool},(a::l).all f=(f a && l.all f))/\
  (∀ {α:Type} {f:α->Bool},([]:List α).all f=true)/\
  (∀ {α:Type} {a:α} {l:List α},(a::l).length=l.length+1)/\
  (∀ {α:Type},([]:List α).length=0)/\
  (∀ {α β:Type} {l:List α} (f:α->β),(List.map f l).length=l.length)/\
  (∀(n:Nat),0+n=n)/\
  (∀(b:Bool),(b && b)=b)/\
  (∀(b:Bool),(b && true)=b)/\
  (∀(p:Prop),(p/\p)=p)/\
  (∀ {α:Type} {_x:Decidable True} (t e:α),(if True then t else e)=t)/\
  (∀ {α:Type} {_x:Decidable False} (t e:α),(if False then t else e)=e)/\
  ((true=false)=False)/\
  ((false=true)=False)/\
  (∀(_h:Decidable True),decide True=true)/\
  (∀(_h:Decidable False),decide False=false)/\
  ((!true)=false)/\
  ((!false)=true)/\
  (∀(b:Bool),((!b)=true)=(b=false))/\
  (∀ {p:Prop} [Decidable p],(decide p=true)=p)/\
  (∀ {p:Prop} {x:Decidable p},decide p=false↔ ¬p)/\
  (∀(a:Int),¬a < a)/\
  ((¬True)=False)/\
  ((¬False)=True)/\
  (∀ {α:Type} (a b:α),(if True then a else b)=a)/\
  (∀ {α:Type} (a b:α),(if False then a else b)=b):=
 ⟨@jqe,@jf0,@Qx,@jpm,@Option.bind_some.{0,0},@Option.bind_none.{0,0},@jch,@jgY,@jrP,@jg3,@joi,@jg2,@jok,@jkA,@jcu,@K3,@jgg,@jsv,@jsw,@jqq,@jgU,@joc,@job,@joa,@jn9,@joe,@jlH,@jlG,@jlF,@jlE,@jlD,@jlI,@jlJ,@jlK,@J2,@jgV,@jod,@QJ,@jlO,@jlN,@jom,@qh,@jiP,@jiO,@jk3,@jm4,@jm5,@jic,@jnZ,@jqi,@jsI,@jsL,@jsK,@jsJ,@jop,@jsS,@jsT,@jsU,@jqo,@jqp,@juc,@jv7,@jv8,@jv9,@List.all_cons.{0},@List.all_nil.{0},@List.length_cons.{0},@List.length_nil.{0},@List.length_map.{0,0},@Nat.zero_add,@Bool.and_self,@Bool.and_true,@and_self,@if_true.{1},@if_false.{1},@Bool.true_eq_false,@Bool.false_eq_true,@decide_true,@decide_false,@Bool.not_true,@Bool.not_false,@Bool.not_eq_true',@decide_eq_true_eq,@decide_eq_false_iff_not,@Int.lt_irrefl,@not_true_eq_false,@not_false_eq_true,@ite_true.{1},@ite_false.{1}⟩
end
theorem jt8:(∀ {α:Type} {h:Decidable True} (a b:α),@ite α True h a b=a)/\(∀ {α:Type} {h:Decidable False} (a b:α),@ite α False h a b=b)/\(1+1=2/\1+2=3/\1+3=4/\1+4=5/\2+1=3/\2+2=4/\2+3=5/\2+4=6/\3+1=4/\3+2=5/\3+3=6/\3+4=7/\4+1=5/\4+2=6/\4+3=7/\4+4=8/\5+1=6/\5+2=7/\5+3=8/\5+4=9/\6+1=7/\6+2=8/\6+3=9/\6+4=10/\7+1=8/\7+2=9/\7+3=10/\7+4=11/\8+1=9/\8+2=10/\8+3=11/\8+4=12/\9+1=10/\9+2=11/\9+3=12/\9+4=13/\10+1=11/\10+2=12/\10+3=13/\10+4=14/\11+1=12/\11+2=13/\11+3=14/\11+4=15/\12+1=13/\12+2=14/\12+3=15/\12+4=16):=by refine ⟨?_,?_,by decide⟩<;>intros<;>simp
theorem jf:type_of% (And.intro evs (And.intro cev jt8)):=And.intro evs (And.intro cev jt8)
open Go Go.RowKit Go.ChangeShapes Go.Deep Go.Proofs.YtdbgbieenhcldaaGreat.Abs
section
variable {P:Program} {t:Nat} {H:Type} {enc:TypeId × Value->H} {w:World} {base:Nat} {spare:Nat->Bool} {held:Bool} {fuel:Nat} {cs:List Value} {x:DataW H × List MemPlace}
end
inductive T where
 | mk (name:List UInt8) (args:List T)
def T.name:T->List UInt8 | .mk n _=>n
def T.args:T->List T | .mk _ us=>us
theorem T.eta (t:T):T.mk t.name t.args=t:=by cases t;rfl
mutual
def jx:T->List A
 | .mk n us=>[sv n,.sl 2 (jbb us)]
def jbb:List T->List (List A)
 | []=>[]
 | t::ts=>jx t::jbb ts
end
theorem jau:∀ts:List T,jbb ts=ts.map jx
 | []=>rfl
 | t::ts=>by simp [jbb,jau ts]
theorem ku (t:T):jx t = [sv t.name,.sl 2 (t.args.map jx)]:=by
 cases t;simp [jx,T.name,T.args,jau]
abbrev tm (t:T):A:= .agg [sv t.name,.sl 2 (t.args.map jx)]
abbrev j6 (ts:List T):A:= .sl 2 (ts.map jx)
theorem jg (t:T):jF 2 (.elt (jx t) 0)=some (.agg [sv t.name,.sl 2 (t.args.map jx)]):=by rw [ku];rfl
mutual
def tsz:T->Nat
 | .mk n us=>n.length+us.length+zu us
def zu:List T->Nat
 | []=>0
 | t::ts=>tsz t+zu ts
end
theorem jY (t:T):tsz t=t.name.length+t.args.length+zu t.args:=by cases t;simp [tsz,T.name,T.args]
theorem y8:∀ {ts:List T} {t:T},t∈ts->tsz t<=zu ts
 | [],_,h=>by cases h
 | u::us,t,h=>by
  simp only [zu];rcases List.mem_cons.1 h with rfl|h
  ·omega
  ·have:=y8 h;omega
mutual
def QV:T->Prop
 | .mk n us=>n.length<=9223372036854775807/\us.length<=9223372036854775807/\jml us
def jml:List T->Prop
 | []=>True
 | t::ts=>QV t/\jml ts
end
theorem zg (t:T):QV t↔t.name.length<=9223372036854775807/\t.args.length<=9223372036854775807/\jml t.args:=by cases t;simp [QV,T.name,T.args]
theorem kK:∀ts:List T,jml ts↔ ∀t∈ts,QV t
 | []=>by simp [jml]
 | t::ts=>by simp [jml,kK ts]
theorem T.ind {p:T->Prop} (h:∀t,(∀u∈t.args,p u)->p t):∀t,p t:=by
 intro t;induction hn:SizeOf.sizeOf t using Nat.strongRecOn generalizing t with
 | ind n ih=>
  subst hn;refine h t λu hu=>ih (SizeOf.sizeOf u) ?_ u rfl;cases t with
  | mk nm us=>
   have:=List.sizeOf_lt_of_mem hu;simp only [T.args] at this;simp only [T.mk.sizeOf_spec];omega
section
variable {P:Program} {tT tS:Nat}
end
structure Ord' where
 syms:List (List UInt8)
 ws:List Int
 var:Int
abbrev jwf (o:Ord'):List A:=[strs o.syms,ints o.ws,vi o.var]
abbrev od (o:Ord'):A:= .agg [strs o.syms,ints o.ws,vi o.var]
def owf (o:Ord'):Prop:=((∀s∈o.syms,s.length<=9223372036854775807)/\o.syms.length<=9223372036854775807)/\((∀x∈o.ws,I64 x)/\o.ws.length<=9223372036854775807)/\I64 o.var
set_option maxHeartbeats 1000000
def jwK (left n:Int):Int:=if 0<=left - n then left - n else -1
def part {α:Type} (f:α->List A) (z:List A) (xs:List α) (i:Nat):List (List A):=(xs.take i).map f++List.replicate (xs.length - i) z
section
variable {α:Type} {f:α->List A} {z:List A} {xs:List α}
theorem jdP:KA xs.length z=part f z xs 0:=by simp [part,KA]
theorem jg6:part f z xs xs.length=xs.map f:=by simp [part]
theorem jam {i:Nat} (h:i<=xs.length):(part f z xs i).length=xs.length:=by simp [part];omega
theorem jg7 {i:Nat} (h:i < xs.length):jc9 (part f z xs i) i=some z:=by
 unfold jc9 part;rw [List.getElem?_append_right (by simp;omega)];simp;rw [List.getElem?_replicate,if_pos (by omega)]
theorem jg8 {i:Nat} (h:i < xs.length):Jd (part f z xs i) i (f xs[i])=part f z xs (i+1):=by
 unfold Jd part;have e:xs.length - i=(xs.length - (i+1))+1:=by omega
 rw [List.set_append_right _ _ (by simp;omega),e,List.replicate_succ]
 simp only [List.length_map,List.length_take,Nat.min_eq_left (Nat.le_of_lt h),Nat.sub_self,List.set_cons_zero];rw [<-List.take_append_getElem h,List.map_append];simp
end
theorem YL (a b c d:A):Jr [a,b] 0 [c,d] = [c,d]:=rfl
theorem jdN {b n:Nat} (hb:(b:Int) * (n:Int)<=281474976710656) (hn:n<=1048576):jdM b (vi n) (vi n)=some n:=by
 show (if _ then _ else _)=_;rw [if_pos (show jr3 b n n from ⟨by omega,Int.le_refl _,hb,by omega⟩),Int.toNat_natCast]
theorem jg1 {k:Nat} {xs:List (List A)} {i:Nat} (h:i<=xs.length):JH k (.sl k xs) (some (vi i)) none=some (.sl k (xs.drop i)):=by
 simp only [JH,qt,Option.bind_some];rw [if_pos ⟨trivial,by omega,by omega,by omega⟩];simp
def jwb (k:Int):Nat->List Int
 | 0=>[]
 | n+1=>k::jwb (k+1) n
section
variable {α:Type} {f:α->List A} (M r:List α) (x:α)
end
section
variable (M R:List (List A)) (x y:List A)
end
def joO:List (List UInt8)->Nat
 | []=>0
 | s::l=>s.length+joO l
def osz (o:Ord'):Nat:=o.syms.length+joO o.syms+o.ws.length
theorem yS {l:List UInt8} {i:Nat} (h:i < l.length):j8 (sv l) (vi i)=some (vy (l[i].toNat:Int)):=by
 show (if _ then _ else _)=_;rw [if_pos ⟨by omega,by simpa using h⟩];simp [List.getD_eq_getElem?_getD,h]
theorem kR {c:UInt8} {l:List UInt8} :j8 (sv (c::l)) (vi 0)=some (vy (c.toNat:Int)):=yS (i:=0) (l:=c::l) (by simp)
def Kz (lo hi x:Int):Bool:=decide (lo<=x) && decide (x<=hi)
theorem ZI (x a b:Int):G 88 [vi x,vi a,vi b]=some (vb (Kz a b x),[]):=by
 rw [g88];by_cases h:a<=x<;>simp only [jf,h,Kz,Bool.true_and,Bool.false_and]
theorem jaZ (x a b:Int):G 80 [vi x,vi a,vi b]=some (vb (Kz a b x),[]):=by
 rw [g80];by_cases h:a<=x<;>simp only [jf,h,Kz,Bool.true_and,Bool.false_and]
def upc (c:UInt8):Bool:=Kz 65 90 (c.toNat:Int)
def ZK (c:UInt8):Bool:=Kz 97 122 (c.toNat:Int)
def jk8 (c:UInt8):Bool:=Kz 48 57 (c.toNat:Int)
def zY (c:UInt8):Bool:=ZK c || jk8 c
theorem Kg (c:UInt8):G 85 [vy (c.toNat:Int)]=some (vb (upc c),[]):=by
 rw [g85];by_cases h:65<=(c.toNat:Int)<;>simp only [jf,h,upc,Kz,Bool.true_and,Bool.false_and]
theorem Z8 (c:UInt8):G 86 [vy (c.toNat:Int)]=some (vb (ZK c),[]):=by
 rw [g86];by_cases h:97<=(c.toNat:Int)<;>simp only [jf,h,ZK,Kz,Bool.true_and,Bool.false_and]
theorem jbP (c:UInt8):G 87 [vy (c.toNat:Int)]=some (vb (jk8 c),[]):=by
 rw [g87];by_cases h:48<=(c.toNat:Int)<;>simp only [jf,h,jk8,Kz,Bool.true_and,Bool.false_and]
theorem jbZ (c:UInt8):G 81 [vy (c.toNat:Int)]=some (vb (zY c),[]):=by
 rw [g81];by_cases h:97<=(c.toNat:Int)<;>by_cases h2:(c.toNat:Int)<=122<;>by_cases h3:48<=(c.toNat:Int)<;>simp only [jf,h,h2,h3,zY,ZK,jk8,Kz,Bool.true_and,Bool.false_and,Bool.or_true,Bool.or_false,Bool.true_or,Bool.false_or]
def ju:List UInt8->Bool
 | []=>false
 | c::r=>upc c && (r.all zY && decide (r.length<=3))
theorem jaW (r:List UInt8) (k:Nat) (hk:k<=9):Kz 1 (k+1:Nat) (((r.length+1:Nat)):Int)=decide (r.length<=k):=by
 unfold Kz;have:decide ((1:Int)<=((r.length+1:Nat):Int))=true:=by simp;omega
 rw [this,Bool.true_and];by_cases h:r.length<=k<;>simp [h]<;>omega
theorem jaE (s:List UInt8) (hs:s.length<=9223372036854775807):∀i,i<=s.length->1<=i->jfI (sv s) (vi (s.length:Nat)) (vi i)=some (vb ((s.drop i).all zY && Kz 1 4 (s.length:Nat)),[]):=by
 refine upto (P:=λi=>1<=i->jfI (sv s) (vi (s.length:Nat)) (vi i)=some (vb ((s.drop i).all zY && Kz 1 4 (s.length:Nat)),[])) ?_ ?_
 ·intro _;rw [jkh,List.drop_length];have e:=ZI (s.length:Nat) 1 4;simp only [jf,e,Bool.true_and]
 ·intro i hi ih h1;have ih:=ih (by omega);have hn:¬((i:Int)=0):=by omega
  have hp:(0:Int) < (i:Int):=by omega
  have hlt:(i:Int) < ((s.length:Nat):Int):=by omega
  have h5:=jz hi hs;have hx:=yS hi;have e1:=Z8 s[i];have e2:=jbP s[i];rw [jkh,jl hi];generalize s[i]=ch at *;rw [List.all_cons];cases h8:ZK ch<;>cases h9:jk8 ch<;>rw [h8] at e1<;>rw [h9] at e2<;>simp only [jf,hn,hp,hlt,hx,e1,e2,h5,ih,zY,h8,h9,Bool.true_and,Bool.false_and,Bool.or_true,Bool.or_false,Bool.true_or,Bool.false_or]
theorem ZW (s:List UInt8) (hs:s.length<=9223372036854775807):G 54 [sv s]=some (vb (ju s),[]):=by
 rw [g54];show (K2 (sv s)).bind _=_;rw [K3,Option.bind_some];cases s with
 | nil=>
  rw [jkh];have e:=ZI ((0:Nat):Int) 1 4;simp only [jf,e];rfl
 | cons c r=>
  have key:=jaE (c::r) hs 1 (by simp) (Nat.le_refl _);simp only [List.drop_succ_cons,List.drop_zero] at key;have e':Kz 1 4 (((c::r).length:Nat):Int)=decide (r.length<=3):=jaW r 3 (by decide);rw [e'] at key;rw [jkh];have h5:js .add false (vi 0) (vi 1)=some (vi ((1:Nat):Int)):=by rw [J2,jE (by decide) (by decide)];rfl
  have h6:(0:Int) < (((c::r).length:Nat):Int):=Int.natCast_pos.2 (Nat.succ_pos _);have e1:=Kg c;generalize ((((c::r).length:Nat)):Int)=n at *;cases hu:upc c<;>rw [hu] at e1<;>simp only [jf,h6,kR,e1,h5,key,ju,hu,Bool.true_and,Bool.false_and]
theorem jiA (s:List UInt8) (hs:s.length<=9223372036854775807):∀i,i<=s.length->jdg (sv s) (vi i)=some (vb ((s.drop i).all zY),[]):=by
 refine upto (P:=λi=>jdg (sv s) (vi i)=some (vb ((s.drop i).all zY),[])) ?_ ?_
 ·rw [jry,List.drop_length];simp only [jf]
 ·intro i hi ih;have hlt:(i:Int) < ((s.length:Nat):Int):=by omega
  have h5:=jz hi hs;have hx:=yS hi;have e1:=jbZ s[i];rw [jry,jl hi];generalize s[i]=ch at *;rw [List.all_cons];cases h8:zY ch<;>rw [h8] at e1<;>simp only [jf,hlt,hx,e1,h5,ih,h8,Bool.true_and,Bool.false_and]
theorem JZ (s:List UInt8) (hs:s.length<=9223372036854775807):G 47 [sv s]=some (vb (ju s),[]):=by
 rw [g47];show (K2 (sv s)).bind _=_;rw [K3,Option.bind_some];cases s with
 | nil=>
  have e:=jaZ ((0:Nat):Int) 1 4;simp only [jf,e];rfl
 | cons c r=>
  have e:=jaZ (((c::r).length:Nat):Int) 1 4;have e':Kz 1 4 (((c::r).length:Nat):Int)=decide (r.length<=3):=jaW r 3 (by decide);rw [e'] at e;have key:=jiA (c::r) hs 1 (by simp);simp only [List.drop_succ_cons,List.drop_zero] at key;have key:jdg (sv (c::r)) (vi 1)=some (vb (r.all zY),[]):=key;generalize ((((c::r).length:Nat)):Int)=n at *;by_cases h3:r.length<=3
  ·rw [decide_eq_true h3] at e;by_cases ha:(c.toNat:Int) < 65
   ·have:¬(65<=(c.toNat:Int)):=by omega
    simp only [jf,e,kR,ha,ju,upc,Kz,this,Bool.false_and]
   ·have h65:65<=(c.toNat:Int):=by omega
    by_cases hb:90 < (c.toNat:Int)
    ·have:¬((c.toNat:Int)<=90):=by omega
     simp only [jf,e,kR,ha,hb,ju,upc,Kz,this,Bool.false_and,Bool.and_false]
    ·have:(c.toNat:Int)<=90:=by omega
     simp only [jf,e,kR,ha,hb,ju,upc,Kz,this,h65,key,h3,Bool.true_and,Bool.and_true]
  ·rw [decide_eq_false h3] at e;simp only [jf,e,ju,h3,Bool.and_false]
def Z3 (s:List UInt8):List (List UInt8)->Option Nat
 | []=>none
 | x::l=>if s=x then some 0 else (Z3 s l).map (· + 1)
def ZS (i:Nat):Option Nat->Int
 | none=> -1
 | some k=>((i+k:Nat):Int)
theorem Q9 (s:List UInt8):∀l,(Z3 s l).isSome=l.contains s
 | []=>rfl
 | x::l=>by
  simp only [Z3,List.contains_cons];by_cases h:s=x
  ·simp [h]
  ·have:=Q9 s l;simp [h,this]
theorem jeE (s:List UInt8) (l:List (List UInt8)):decide (0<=ZS 0 (Z3 s l))=l.contains s:=by
 rw [<-Q9];cases Z3 s l<;>simp [ZS]
theorem jiq {s x:List UInt8} {l:List (List UInt8)} {i:Nat} (h:¬s=x):ZS (i+1) (Z3 s l)=ZS i (Z3 s (x::l)):=by
 simp only [Z3,h,if_false];cases Z3 s l<;>simp [ZS];omega
theorem jis (l:List (List UInt8)) (s:List UInt8) (hl:l.length<=9223372036854775807):G 142 [strs l,sv s]=some (vi (ZS 0 (Z3 s l)),[]):=by
 have key:=upto (P:=λi=>jer (strs l) (sv s) (vi (l.length:Nat)) (vi i)=some (vi (ZS i (Z3 s (l.drop i))),[])) (n:=l.length) ?_ ?_ 0 (Nat.zero_le _)
 ·simp only [Int.natCast_zero,List.drop_zero] at key;rw [jv6];simp only [jf,key]
 ·rw [jnK,List.drop_length];simp only [jf,Z3,ZS]
 ·intro i hi ih;have hlt:(i:Int) < ((l.length:Nat):Int):=by omega
  have h5:=jz hi hl;rw [jnK,jl hi];by_cases h:s=l[i]
  ·simp only [jf,hlt,jb hi,h,Z3,ZS,Nat.add_zero]
  ·simp only [jf,hlt,jb hi,h,h5,ih,jiq h]
theorem jc0 (l:List (List UInt8)) (s:List UInt8) (hl:l.length<=9223372036854775807):G 119 [strs l,sv s]=some (vb (l.contains s),[]):=by
 have e:=jis l s hl;rw [jv1];simp only [jf,e,jeE]
def jhn:List (List UInt8):=[[116,114,117,101],[102,97,108,115,101],[116,114,117,116,104],[98,111,116,104],[101,105,116,104,101,114],[105,102],[97,108,108],[115,111,109,101]]
def jfp (c:UInt8):Bool:=zY c || decide ((c.toNat:Int)=95)
def zQ:List UInt8->Bool
 | []=>false
 | c::r=>ZK c && (r.all jfp && (decide (r.length<=5) && !jhn.contains (c::r)))
theorem jpk (a b:List UInt8):(a == b)=decide (a=b):=by by_cases h:a=b<;>simp [h]
theorem jc3 (s:List UInt8) (hs:s.length<=9223372036854775807):∀i,i<=s.length->1<=i->jbh (sv s) (vi (s.length:Nat)) (vi i)=some (vb ((s.drop i).all jfp && (Kz 1 6 (s.length:Nat) && !jhn.contains s)),[]):=by
 refine upto (P:=λi=>1<=i->jbh (sv s) (vi (s.length:Nat)) (vi i)=some (vb ((s.drop i).all jfp && (Kz 1 6 (s.length:Nat) && !jhn.contains s)),[])) ?_ ?_
 ·intro _;rw [jeK,List.drop_length];have e:=ZI (s.length:Nat) 1 6;have e2:=jc0 jhn s (by decide);have e3:G 120 []=some (strs jhn,[]):=jv2;cases h:Kz 1 6 (s.length:Nat)<;>rw [h] at e<;>simp only [jf,e,e2,e3,h,Bool.true_and,Bool.false_and,List.all_nil]
 ·intro i hi ih h1;have ih:=ih (by omega);have hn:¬((i:Int)=0):=by omega
  have hlt:(i:Int) < ((s.length:Nat):Int):=by omega
  have h5:=jz hi hs;have hx:=yS hi;have e1:=Z8 s[i];have e2:=jbP s[i];rw [jeK,jl hi];generalize s[i]=ch at *;rw [List.all_cons];cases h7:decide ((ch.toNat:Int)=95)<;>cases h8:ZK ch<;>cases h9:jk8 ch<;>rw [h8] at e1<;>rw [h9] at e2<;>
   simp only [jf,hn,hlt,hx,e1,e2,h5,ih,jfp,zY,h7,h8,h9,Bool.true_and,Bool.false_and,Bool.or_true,Bool.or_false,Bool.true_or,Bool.false_or]
theorem jac (s:List UInt8) (hs:s.length<=9223372036854775807):G 101 [sv s]=some (vb (zQ s),[]):=by
 rw [jvQ];show (K2 (sv s)).bind _=_;rw [K3,Option.bind_some];cases s with
 | nil=>
  rw [jeK];have e:G 88 [vi ((0:Nat):Int),vi 1,vi 6]=some (vb false,[]):=ZI ((0:Nat):Int) 1 6;simp only [jf,e];rfl
 | cons c r=>
  have key:=jc3 (c::r) hs 1 (by simp) (Nat.le_refl _);simp only [List.drop_succ_cons,List.drop_zero] at key;have e':Kz 1 6 (((c::r).length:Nat):Int)=decide (r.length<=5):=jaW r 5 (by decide);rw [e'] at key;rw [jeK];have h5:js .add false (vi 0) (vi 1)=some (vi ((1:Nat):Int)):=by rw [J2,jE (by decide) (by decide)];rfl
  have h6:(0:Int) < (((c::r).length:Nat):Int):=Int.natCast_pos.2 (Nat.succ_pos _);have e1:=Z8 c;generalize ((((c::r).length:Nat)):Int)=n at *;cases hu:ZK c<;>rw [hu] at e1<;>simp only [jf,h6,kR,e1,h5,key,zQ,hu,Bool.true_and,Bool.false_and]
theorem jc5 (s:List UInt8) (hs:s.length<=9223372036854775807):∀i,i<=s.length->JN (sv s) (vi i)=some (vb ((s.drop i).all jfp),[]):=by
 refine upto (P:=λi=>JN (sv s) (vi i)=some (vb ((s.drop i).all jfp),[])) ?_ ?_
 ·rw [jrC,List.drop_length];simp only [jf]
 ·intro i hi ih;have hlt:(i:Int) < ((s.length:Nat):Int):=by omega
  have h5:=jz hi hs;have hx:=yS hi;have e1:=jbZ s[i];rw [jrC,jl hi];generalize s[i]=ch at *;rw [List.all_cons];cases h7:decide ((ch.toNat:Int)=95)<;>cases h8:zY ch<;>rw [h8] at e1<;>simp only [jf,hlt,hx,e1,h5,ih,jfp,h7,h8,Bool.true_and,Bool.false_and,Bool.or_true,Bool.or_false,Bool.true_or,Bool.false_or]
theorem jaf (s:List UInt8) (hs:s.length<=9223372036854775807):G 63 [sv s]=some (vb (zQ s),[]):=by
 rw [g63];show (K2 (sv s)).bind _=_;rw [K3,Option.bind_some];cases s with
 | nil=>
  have e:G 80 [vi ((0:Nat):Int),vi 1,vi 6]=some (vb false,[]):=jaZ ((0:Nat):Int) 1 6;simp only [jf,e];rfl
 | cons c r=>
  have e:=jaZ (((c::r).length:Nat):Int) 1 6;have e':Kz 1 6 (((c::r).length:Nat):Int)=decide (r.length<=5):=jaW r 5 (by decide);rw [e'] at e;have key:=jc5 (c::r) hs 1 (by simp);simp only [List.drop_succ_cons,List.drop_zero] at key;have key:JN (sv (c::r)) (vi 1)=some (vb (r.all jfp),[]):=key;generalize ((((c::r).length:Nat)):Int)=n at *;have hres:jhn.contains (c::r)=(decide (c::r = [116,114,117,101]) || (decide (c::r = [102,97,108,115,101]) || (decide (c::r = [116,114,117,116,104]) || (decide (c::r = [98,111,116,104]) || (decide (c::r = [101,105,116,104,101,114]) || (decide (c::r = [105,102]) || (decide (c::r = [97,108,108]) || decide (c::r = [115,111,109,101])))))))):=by
   simp only [jhn,List.contains_cons,List.contains_nil,Bool.or_false,jpk]
  by_cases h3:r.length<=5
  ·rw [decide_eq_true h3] at e;by_cases ha:(c.toNat:Int) < 97
   ·have:¬(97<=(c.toNat:Int)):=by omega
    simp only [jf,e,kR,ha,zQ,ZK,Kz,this,Bool.false_and]
   ·have h65:97<=(c.toNat:Int):=by omega
    by_cases hb:122 < (c.toNat:Int)
    ·have:¬((c.toNat:Int)<=122):=by omega
     simp only [jf,e,kR,ha,hb,zQ,ZK,Kz,this,Bool.false_and,Bool.and_false]
    ·have h122:(c.toNat:Int)<=122:=by omega
     have e0:zQ (c::r)=(r.all jfp && !jhn.contains (c::r)):=by
      simp [zQ,ZK,Kz,h65,h122,h3]
     rw [e0,hres];have hx0:=kR (c:=c) (l:=r);clear hres e0;generalize c::r=s at *;cases q0:decide (s = [116,114,117,101]);rotate_left
     ·simp only [jf,e,hx0,ha,hb,q0,Bool.true_or,Bool.false_or,Bool.and_false]
     cases q1:decide (s = [102,97,108,115,101]);rotate_left
     ·simp only [jf,e,hx0,ha,hb,q0,q1,Bool.true_or,Bool.false_or,Bool.and_false]
     cases q2:decide (s = [116,114,117,116,104]);rotate_left
     ·simp only [jf,e,hx0,ha,hb,q0,q1,q2,Bool.true_or,Bool.false_or,Bool.and_false]
     cases q3:decide (s = [98,111,116,104]);rotate_left
     ·simp only [jf,e,hx0,ha,hb,q0,q1,q2,q3,Bool.true_or,Bool.false_or,Bool.and_false]
     cases q4:decide (s = [101,105,116,104,101,114]);rotate_left
     ·simp only [jf,e,hx0,ha,hb,q0,q1,q2,q3,q4,Bool.true_or,Bool.false_or,Bool.and_false]
     cases q5:decide (s = [105,102]);rotate_left
     ·simp only [jf,e,hx0,ha,hb,q0,q1,q2,q3,q4,q5,Bool.true_or,Bool.false_or,Bool.and_false]
     cases q6:decide (s = [97,108,108]);rotate_left
     ·simp only [jf,e,hx0,ha,hb,q0,q1,q2,q3,q4,q5,q6,Bool.true_or,Bool.false_or,Bool.and_false]
     cases q7:decide (s = [115,111,109,101]);rotate_left
     ·simp only [jf,e,hx0,ha,hb,q0,q1,q2,q3,q4,q5,q6,q7,Bool.true_or,Bool.false_or,Bool.and_false]
     simp only [jf,e,hx0,ha,hb,q0,q1,q2,q3,q4,q5,q6,q7,Bool.true_or,Bool.false_or,Bool.and_true,Bool.or_false,key]
  ·rw [decide_eq_false h3] at e;simp only [jf,e,zQ,h3,Bool.false_and,Bool.and_false]
mutual
def nodes:T->Nat
 | .mk _ us=>1+jA us
def jA:List T->Nat
 | []=>0
 | t::ts=>nodes t+jA ts
end
theorem jN (t:T):nodes t=1+jA t.args:=by cases t;rfl
mutual
def qn:T->Nat
 | .mk _ us=>1+KS us
def KS:List T->Nat
 | []=>0
 | t::ts=>max (qn t) (KS ts)
end
theorem jby (t:T):qn t=1+KS t.args:=by cases t;rfl
mutual
def zt:T->Bool
 | .mk n us=>if ju n then us.isEmpty else zQ n && (decide (us.length<=4) && Kk us)
def Kk:List T->Bool
 | []=>true
 | t::ts=>zt t && Kk ts
end
theorem zS (t:T):zt t=if ju t.name then t.args.isEmpty else zQ t.name && (decide (t.args.length<=4) && Kk t.args):=by cases t;rfl
theorem yD:∀ts,Kk ts=ts.all zt
 | []=>rfl
 | t::ts=>by rw [Kk,yD ts,List.all_cons]
theorem Y9:∀t:T,nodes t<=1+tsz t:=by
 refine T.ind λt ih=> ?_;have:∀ts:List T,(∀u∈ts,nodes u<=1+tsz u)->jA ts<=ts.length+zu ts:=by
  intro ts;induction ts with
  | nil=>intro _;simp [jA]
  | cons u us ih=>
   intro h;have h1:=h u (by simp);have h2:=ih λv hv=>h v (by simp [hv]);simp only [jA,zu,List.length_cons];omega
 have h:=this t.args ih;rw [jN,jY];omega
theorem jdE (t:T):1<=nodes t:=by rw [jN];omega
theorem Ye {ts:List T} {t:T} (h:t∈ts):nodes t<=jA ts:=by
 induction ts with
 | nil=>cases h
 | cons u us ih=>
  simp only [jA];rcases List.mem_cons.1 h with rfl|h
  ·omega
  ·have:=ih h;omega
theorem jih:∀t:T,qn t<=nodes t:=by
 refine T.ind λt ih=> ?_;have:∀ts:List T,(∀u∈ts,qn u<=nodes u)->KS ts<=jA ts:=by
  intro ts;induction ts with
  | nil=>intro _;simp [KS]
  | cons u us ih=>
   intro h;have h1:=h u (by simp);have h2:=ih λv hv=>h v (by simp [hv]);simp only [jA,KS];omega
 have h:=this t.args ih;rw [jN,jby];omega
theorem jl5 (ts:List T) (hl:ts.length<=9223372036854775807) (hn:jA ts<=1048577) (ih:∀t∈ts,∃r:Nat,G 112 [tm t]=some (vi r,[])/\r<=nodes t/\(nodes t<=30->r=nodes t)/\(30 < nodes t->30 < r)) :
  ∀i,i<=ts.length-> ∀a:Nat,a+jA (ts.drop i)<=1048578-> ∃r:Nat,jeo (vi a) (j6 ts) (vi (ts.length:Nat)) (vi i)=some (vi r,[])/\r<=a+jA (ts.drop i)/\(a+jA (ts.drop i)<=30->r=a+jA (ts.drop i))/\(30 < a+jA (ts.drop i)->30 < r):=by
 refine upto ?_ ?_
 ·intro a ha;rw [jix,List.drop_length];simp only [jf,jA,Nat.add_zero];exact ⟨a,rfl,Nat.le_refl _,λ_=>rfl,λh=>h⟩
 ·intro i hi ih' a ha;have hlt:(i:Int) < ((ts.length:Nat):Int):=by omega
  have h5:=jz hi hl;rw [jl hi] at ha ⊢;simp only [jA] at ha ⊢;obtain ⟨r1,e1,b1,b2,b3⟩:=ih ts[i] (List.getElem_mem _);by_cases hc:(30:Int) < (a:Int)
  ·refine ⟨a,?_,by omega,by omega,by omega⟩;rw [jix];simp only [jf,hlt,jb hi,jg,hc]
  ·have hk:ck ((a:Int)+(r1:Int))=some (vi ((a+r1:Nat):Int)):=by rw [jE (by omega) (by omega)];rfl
   obtain ⟨r2,e2,c1,c2,c3⟩:=ih' (a+r1) (by omega);refine ⟨r2,?_,by omega,by omega,by omega⟩;rw [jix];simp only [jf,hlt,jb hi,jg,hc,e1,hk,h5,e2]
theorem size_eq:∀t:T,QV t->tsz t<=1048576-> ∃r:Nat,G 112 [tm t]=some (vi r,[])/\r<=nodes t/\(nodes t<=30->r=nodes t)/\(30 < nodes t->30 < r):=by
 refine T.ind λt ih hw hs=> ?_;obtain ⟨w1,w2,w3⟩:=(zg t).1 hw;have w3:=(kK _).1 w3;have hn:=Y9 t;rw [jN] at hn;rw [jY] at hs;obtain ⟨r,h1,h2,h3,h4⟩:=jl5 t.args w2 (by rw [jY] at hn;omega) (λu hu=>ih u hu (w3 u hu) (by have:=y8 hu;omega)) 0 (Nat.zero_le _) 1 (by rw [jY] at hn;simp;omega);simp only [List.drop_zero,Int.natCast_zero,Int.natCast_one] at h1 h2 h3 h4;refine ⟨r,?_,by rw [jN];exact h2,by rw [jN];exact h3,by rw [jN];exact h4⟩;rw [jvV];simp only [jf,h1]
theorem jlz (n:List UInt8) (most:Int) (hm1: -1048600<=most) (hm:most<=1048576) (ts:List T) (hl:ts.length<=9223372036854775807) (ih:∀t∈ts,∀m:Int,-1048600<=m->m<=1048576-> ∃r:Nat,G 98 [tm t,vi m]=some (vi r,[])/\1<=r/\r<=nodes t/\((nodes t:Int)<=m->r=nodes t)/\(m < nodes t->m < r)) :
  ∀i,i<=ts.length-> ∀a:Nat,1<=a->a+jA (ts.drop i)<=1048578-> ∃r:Nat,jjH (vi most) (vi a) (vi i) (sv n) (j6 ts)=some (vi r,[])/\1<=r/\r<=a+jA (ts.drop i)/\(((a+jA (ts.drop i):Nat):Int)<=most->r=a+jA (ts.drop i))/\(most < ((a+jA (ts.drop i):Nat):Int)->most < r):=by
 refine upto ?_ ?_
 ·intro a h1 ha;rw [jnP,List.drop_length];simp only [jf,jA,Nat.add_zero];exact ⟨a,rfl,h1,Nat.le_refl _,λ_=>rfl,λh=>h⟩
 ·intro i hi ih' a h1 ha;have hlt:(i:Int) < ((ts.length:Nat):Int):=by omega
  have h5:=jz hi hl;rw [jl hi] at ha ⊢;simp only [jA] at ha ⊢;by_cases hc:(a:Int)<=most
  ·obtain ⟨r1,e1,b0,b1,b2,b3⟩:=ih ts[i] (List.getElem_mem _) (most - a) (by omega) (by omega);have hk0:ck (most - (a:Int))=some (vi (most - a)):=jE (by omega) (by omega);have hk:ck ((a:Int)+(r1:Int))=some (vi ((a+r1:Nat):Int)):=by rw [jE (by omega) (by omega)];rfl
   obtain ⟨r2,e2,c0,c1,c2,c3⟩:=ih' (a+r1) (by omega) (by omega);refine ⟨r2,?_,by omega,by omega,by omega,by omega⟩;rw [jnP];simp only [jf,hlt,jb hi,jg,hc,hk0,e1,hk,h5,e2]
  ·refine ⟨a,?_,h1,by omega,by omega,by omega⟩;rw [jnP];simp only [jf,hlt,hc]
theorem jp7:∀t:T,QV t->tsz t<=1048576-> ∀m:Int,-1048600<=m->m<=1048576-> ∃r:Nat,G 98 [tm t,vi m]=some (vi r,[])/\1<=r/\r<=nodes t/\((nodes t:Int)<=m->r=nodes t)/\(m < nodes t->m < r):=by
 refine T.ind λt ih hw hs m hm1 hm=> ?_;obtain ⟨w1,w2,w3⟩:=(zg t).1 hw;have w3:=(kK _).1 w3;have hn:=Y9 t;rw [jN] at hn;obtain ⟨r,h1,h0,h2,h3,h4⟩:=jlz t.name m hm1 hm t.args w2 (λu hu m h1 h2=>ih u hu (w3 u hu) (by have:=y8 hu;rw [jY] at hs;omega) m h1 h2) 0 (Nat.zero_le _) 1 (Nat.le_refl _) (by simp;omega);simp only [List.drop_zero,Int.natCast_zero,Int.natCast_one] at h1 h2 h3 h4;refine ⟨r,?_,h0,by rw [jN];exact h2,by rw [jN];exact h3,by rw [jN];exact h4⟩;rw [g98];simp only [jf,h1]
theorem jii (ts:List T) (hl:ts.length<=9223372036854775807) (hn:jA ts<=1048577) (ih:∀t∈ts,G 113 [tm t]=some (vi (qn t:Nat),[])) :
  ∀i,i<=ts.length-> ∀a:Nat,a<=1048577->jep (vi a) (j6 ts) (vi (ts.length:Nat)) (vi i)=some (vi ((max a (KS (ts.drop i))+1:Nat):Int),[]):=by
 refine upto ?_ ?_
 ·intro a ha;have hk:ck ((a:Int)+1)=some (vi ((a+1:Nat):Int)):=by rw [jE (by omega) (by omega)];rfl
  rw [jnH,List.drop_length];simp only [jf,KS,hk,Nat.max_zero]
 ·intro i hi ih' a ha;have hlt:(i:Int) < ((ts.length:Nat):Int):=by omega
  have h5:=jz hi hl;have e1:=ih ts[i] (List.getElem_mem _);have hd:qn ts[i]<=1048577:=Nat.le_trans (jih _) (Nat.le_trans (Ye (List.getElem_mem hi)) hn);have hmx:(if (a:Int) < ((qn ts[i]:Nat):Int) then ((qn ts[i]:Nat):Int) else (a:Int))=((max a (qn ts[i]):Nat):Int):=by split<;>omega
  have ih':=ih' (max a (qn ts[i])) (by omega);rw [jnH,jl hi];simp only [jf,hlt,jb hi,jg,e1,hmx,h5,ih',KS,Nat.max_assoc]
theorem jni:∀t:T,QV t->tsz t<=1048576->G 113 [tm t]=some (vi (qn t:Nat),[]):=by
 refine T.ind λt ih hw hs=> ?_;obtain ⟨w1,w2,w3⟩:=(zg t).1 hw;have w3:=(kK _).1 w3;have hn:=Y9 t;rw [jN] at hn;have h1:=jii t.args w2 (by omega) (λu hu=>ih u hu (w3 u hu) (by have:=y8 hu;rw [jY] at hs;omega)) 0 (Nat.zero_le _) 0 (by omega);simp only [List.drop_zero,Int.natCast_zero,Nat.zero_max] at h1;rw [jvW,jby,Nat.add_comm];simp only [jf,h1]
theorem jp8 (a b:Nat):G 118 [vi a,vi b]=some (vi ((max a b:Nat):Int),[]):=by
 rw [jv0];by_cases h:(b:Int) < (a:Int)
 ·simp only [jf,h];rw [Nat.max_eq_left (by omega)]
 ·simp only [jf,h];rw [Nat.max_eq_right (by omega)]
theorem jeN (n:List UInt8) (ts:List T) (hl:ts.length<=9223372036854775807) (hn:jA ts<=1048577) (ih:∀t∈ts,G 99 [tm t]=some (vi (qn t:Nat),[])) :
  ∀i,i<=ts.length-> ∀a:Nat,a<=1048577->jjI (vi a) (vi i) (sv n) (j6 ts)=some (vi ((max a (KS (ts.drop i))+1:Nat):Int),[]):=by
 refine upto ?_ ?_
 ·intro a ha;have hk:ck ((a:Int)+1)=some (vi ((a+1:Nat):Int)):=by rw [jE (by omega) (by omega)];rfl
  rw [jrK,List.drop_length];simp only [jf,KS,hk,Nat.max_zero]
 ·intro i hi ih' a ha;have hlt:(i:Int) < ((ts.length:Nat):Int):=by omega
  have h5:=jz hi hl;have e1:=ih ts[i] (List.getElem_mem _);have e2:=jp8 a (qn ts[i]);have hd:qn ts[i]<=1048577:=Nat.le_trans (jih _) (Nat.le_trans (Ye (List.getElem_mem hi)) hn);have ih':=ih' (max a (qn ts[i])) (by omega);rw [jrK,jl hi];simp only [jf,hlt,jb hi,jg,e1,e2,h5,ih',KS,Nat.max_assoc]
theorem jiz:∀t:T,QV t->tsz t<=1048576->G 99 [tm t]=some (vi (qn t:Nat),[]):=by
 refine T.ind λt ih hw hs=> ?_;obtain ⟨w1,w2,w3⟩:=(zg t).1 hw;have w3:=(kK _).1 w3;have hn:=Y9 t;rw [jN] at hn;have h1:=jeN t.name t.args w2 (by omega) (λu hu=>ih u hu (w3 u hu) (by have:=y8 hu;rw [jY] at hs;omega)) 0 (Nat.zero_le _) 0 (by omega);simp only [List.drop_zero,Int.natCast_zero,Nat.zero_max] at h1;rw [g99,jby,Nat.add_comm];simp only [jf,h1]
def ko (t:T):Bool:=decide (nodes t<=30) && decide (qn t<=8)
def kD (t:T):Bool:=ko t && zt t
theorem Z9 (t:T) (hw:QV t) (hs:tsz t<=1048576):G 89 [tm t]=some (vb (ko t),[]):=by
 obtain ⟨r,h1,h2,h3,h4⟩:=size_eq t hw hs;have hd:=jni t hw hs;rw [g89];by_cases h:nodes t<=30
 ·have:(r:Int)<=30:=by have:=h3 h;omega
  have e:decide (((qn t:Nat):Int)<=8)=decide (qn t<=8):=by congr 1;exact propext (by omega)
  simp only [jf,h1,hd,this,ko,h,e,Bool.true_and]
 ·have:¬(r:Int)<=30:=by have:=h4 (by omega);omega
  simp only [jf,h1,this,ko,h,Bool.false_and]
theorem jdx (t:T) (hw:QV t) (hs:tsz t<=1048576):G 61 [tm t]=some (vb (ko t),[]):=by
 obtain ⟨r,h1,h0,h2,h3,h4⟩:=jp7 t hw hs 30 (by decide) (by decide);have hd:=jiz t hw hs;rw [g61];by_cases h:nodes t<=30
 ·have:(r:Int)<=30:=by have:=h3 (by omega);omega
  have e:decide (((qn t:Nat):Int)<=8)=decide (qn t<=8):=by congr 1;exact propext (by omega)
  simp only [jf,h1,hd,this,ko,h,e,Bool.true_and]
 ·have:¬(r:Int)<=30:=by have:=h4 (by omega);omega
  simp only [jf,h1,this,ko,h,Bool.false_and]
theorem jaC {f:FuncId} {caps:List A} (hsig:K.pureF f=true) (p:T->Bool) (ts:List T) (hl:ts.length<=9223372036854775807) (h:∀t∈ts,G f (tm t::caps)=some (vb (p t),[])) :
  ∃r:Int,G 131 [j6 ts,.fn f caps]=some (vi r,[])/\decide (0<=r)=ts.any p:=by
 have key:=upto (P:=λi=>∃r:Int,jeq (j6 ts) (.fn f caps) (vi (ts.length:Nat)) (vi i)=some (vi r,[])/\decide (0<=r)=(ts.drop i).any p) (n:=ts.length) ?_ ?_ 0 (Nat.zero_le _)
 ·obtain ⟨r,h1,h2⟩:=key;simp only [Int.natCast_zero,List.drop_zero] at h1 h2;refine ⟨r,?_,h2⟩;rw [jv3];simp only [jf,h1]
 ·refine ⟨-1,?_,by simp⟩;rw [jnI];simp only [jf]
 ·intro i hi ih;obtain ⟨r,h1,h2⟩:=ih;have hlt:(i:Int) < ((ts.length:Nat):Int):=by omega
  have h5:=jz hi hl;have e1:=h ts[i] (List.getElem_mem _);rw [jnI,jl hi,List.any_cons];cases hp:p ts[i]<;>rw [hp] at e1
  ·refine ⟨r,?_,by rw [h2,Bool.false_or]⟩;simp only [jf,hlt,jb hi,jg,qb hsig,List.cons_append,List.nil_append,e1,h5,h1]
  ·refine ⟨i,?_,by simp⟩;simp only [jf,hlt,jb hi,jg,qb hsig,List.cons_append,List.nil_append,e1]
theorem jbw {f:FuncId} {caps:List A} (hsig:K.pureF f=true) (p:T->Bool) (ts:List T) (hl:ts.length<=9223372036854775807) (h:∀t∈ts,G f (tm t::caps)=some (vb (p t),[])) :
  G 114 [j6 ts,.fn f caps]=some (vb (ts.any p),[]):=by
 obtain ⟨r,h1,h2⟩:=jaC hsig p ts hl h;rw [jvX];simp only [jf,h1,h2]
theorem jfS (p:T->Bool) (ts:List T):(ts.any λt=> !p t)=!ts.all p:=by
 induction ts with
 | nil=>rfl
 | cons t ts ih=>rw [List.any_cons,List.all_cons,ih];cases p t<;>rfl
theorem KV:∀t:T,QV t->G 90 [tm t]=some (vb (zt t),[]):=by
 refine T.ind λt ih hw=> ?_;obtain ⟨w1,w2,w3⟩:=(zg t).1 hw;have w3:=(kK _).1 w3;have e1:=ZW t.name w1;have e2:=jac t.name w1;have e3:=jbw (f:=115) (caps:=[]) rfl (λu=> !zt u) t.args w2 (λu hu=>by
  have:=ih u hu (w3 u hu);rw [jvY];simp only [jf,this])
 rw [jfS,<-yD] at e3;rw [g90,zS];have e4:decide (((t.args.length:Nat):Int)=0)=t.args.isEmpty:=by cases t.args<;>simp;omega
 have e5:decide (((t.args.length:Nat):Int)<=4)=decide (t.args.length<=4):=by congr 1;exact propext (by omega)
 cases hv:ju t.name<;>rw [hv] at e1
 ·cases hy:zQ t.name<;>rw [hy] at e2
  ·simp only [jf,e1,e2,Bool.false_and]
  ·cases ha:decide (t.args.length<=4)<;>rw [ha] at e5
   ·simp only [jf,e1,e2,e5,Bool.false_and,Bool.true_and]
   ·simp only [jf,e1,e2,e5,e3,Bool.true_and,Bool.not_not]
 ·simp only [jf,e1,e4]
theorem Ya:∀t:T,QV t->G 62 [tm t]=some (vb (zt t),[]):=by
 refine T.ind λt ih hw=> ?_;obtain ⟨w1,w2,w3⟩:=(zg t).1 hw;have w3:=(kK _).1 w3;have e1:=JZ t.name w1;have e2:=jaf t.name w1;have key:=upto (P:=λi=>jjD (vi i) (sv t.name) (j6 t.args)=some (vb (Kk (t.args.drop i)),[])) (n:=t.args.length) ?_ ?_ 0 (Nat.zero_le _)
 ·simp only [Int.natCast_zero,List.drop_zero] at key;rw [g62,zS];have e4:decide (((t.args.length:Nat):Int)=0)=t.args.isEmpty:=by cases t.args<;>simp;omega
  cases hv:ju t.name<;>rw [hv] at e1
  ·cases hy:zQ t.name<;>rw [hy] at e2
   ·simp only [jf,e1,e2,Bool.false_and]
   ·by_cases ha:4 < ((t.args.length:Nat):Int)
    ·have:¬t.args.length<=4:=by omega
     simp only [jf,e1,e2,ha,this,Bool.false_and,Bool.and_false]
    ·have:t.args.length<=4:=by omega
     simp only [jf,e1,e2,ha,this,key,Bool.true_and]
  ·simp only [jf,e1,e4]
 ·rw [jrB,List.drop_length];simp only [jf,Kk]
 ·intro i hi ih';have hlt:(i:Int) < ((t.args.length:Nat):Int):=by omega
  have h5:=jz hi w2;have e3:=ih t.args[i] (List.getElem_mem _) (w3 _ (List.getElem_mem _));rw [jrB,jl hi,Kk];cases hp:zt t.args[i]<;>rw [hp] at e3
  ·simp only [jf,hlt,jb hi,jg,e3,Bool.false_and]
  ·simp only [jf,hlt,jb hi,jg,e3,h5,ih',Bool.true_and]
theorem KY (t:T) (hw:QV t) (hs:tsz t<=1048576):G 55 [tm t]=some (vb (kD t),[]):=by
 have e1:=Z9 t hw hs;have e2:=KV t hw;rw [g55,kD];cases h:ko t<;>rw [h] at e1<;>simp only [jf,e1,e2,Bool.true_and,Bool.false_and]
theorem jdy (t:T) (hw:QV t) (hs:tsz t<=1048576):G 48 [tm t]=some (vb (kD t),[]):=by
 have e1:=jdx t hw hs;have e2:=Ya t hw;rw [g48,kD];cases h:ko t<;>rw [h] at e1<;>simp only [jf,e1,e2,Bool.true_and,Bool.false_and]
def jvL (o:Ord') (i:Nat):Bool:=zQ (o.syms.getD i []) && (!(o.syms.take i).contains (o.syms.getD i []) && Kz o.var 100 (o.ws.getD i 0))
def jjg (o:Ord'):Bool:=Kz 1 12 (o.syms.length:Nat) && (decide (o.ws.length=o.syms.length) && (Kz 1 100 o.var && (List.range o.syms.length).all (jvL o)))
mutual
def jpw (l:List (List UInt8)):T->Bool
 | .mk n us=>(ju n || l.contains n) && jq7 l us
def jq7 (l:List (List UInt8)):List T->Bool
 | []=>true
 | t::ts=>jpw l t && jq7 l ts
end
theorem zz {t:T} (h:zt t=true):∀u∈t.args,zt u=true:=by
 rw [zS] at h;intro u hu;split at h
 ·rw [List.isEmpty_iff.1 h] at hu;cases hu
 ·simp only [Bool.and_eq_true] at h;rw [yD] at h;exact List.all_eq_true.1 h.2.2 u hu
theorem jn3 {t:T} (h:zt t=true):∃c r,t.name=c::r/\ju t.name=upc c/\(upc c=false->zQ t.name=true):=by
 rw [zS] at h;cases hn:t.name with
 | nil=>rw [hn] at h;simp [ju,zQ] at h
 | cons c r=>
  refine ⟨c,r,rfl,?_,?_⟩
  ·rw [hn] at h;cases hu:upc c with
   | false=>simp [ju,hu]
   | true=>
    cases hv:ju (c::r) with
    | true=>rfl
    | false=>
     rw [hv] at h;have:ZK c=false:=by
      simp only [upc,Kz,ZK,Bool.and_eq_true,decide_eq_true_eq] at hu ⊢;have:¬(97<=(c.toNat:Int)):=by omega
      simp [this]
     simp [zQ,this] at h
  ·intro hu;rw [hn] at h;have:ju (c::r)=false:=by simp [ju,hu]
   rw [this] at h;simp at h;exact h.1
theorem jbS (t:T) (h:zt t=true):G 102 [tm t]=some (vb (ju t.name),[]):=by
 obtain ⟨c,r,hn,hv,_⟩:=jn3 h;have e1:=Kg c;rw [<-hv] at e1;rw [jsx];have hx:j8 (sv t.name) (vi 0)=some (vy (c.toNat:Int)):=by rw [hn];exact kR
 simp only [jf,hx,e1]
def good (o:Ord') (t:T):Bool:=kD t && jpw o.syms t
def jwm (o:Ord') (n:List UInt8):Int:=match Z3 n o.syms with|some k=>o.ws.getD k 0|none=>0
mutual
def wt (o:Ord'):T->Int
 | .mk n us=>(if ju n then o.var else jwm o n)+wtL o us
def wtL (o:Ord'):List T->Int
 | []=>0
 | t::ts=>wt o t+wtL o ts
end
def js2 (o:Ord') (t:T):A:=if jjg o && good o t then .tup [vi (wt o t),vb true] else .tup [vi 0,vb false]
noncomputable def dq {α:Type} (a b:α):Bool:=@decide (a=b) (Classical.propDecidable _)
theorem zv {α:Type} {a b:α} :dq a b=true↔a=b:=by unfold dq;exact @decide_eq_true_iff _ (Classical.propDecidable _)
theorem jf9 {α:Type} {a b:α} :dq a b=false↔ ¬a=b:=by unfold dq;exact @decide_eq_false_iff_not _ (Classical.propDecidable _)
theorem Kd {α:Type} (a:α):dq a a=true:=zv.2 rfl
theorem jeC {α:Type} (a b:α) (l r:List α):dq (a::l) (b::r)=(dq a b && dq l r):=by
 rw [Bool.eq_iff_iff,Bool.and_eq_true,zv,zv,zv,List.cons.injEq]
theorem jsq (s t:T):dq s t=(decide (s.name=t.name) && dq s.args t.args):=by
 cases s with
 | mk n us=>cases t with
  | mk m vs=>rw [Bool.eq_iff_iff,Bool.and_eq_true,zv,zv,decide_eq_true_iff,T.mk.injEq];rfl
theorem jij {α:Type} {a b:List α} (h:¬a.length=b.length):dq a b=false:=jf9.2 λe=>h (by rw [e])
theorem jaB (ts us:List T) (hl:ts.length<=9223372036854775807) (hlen:ts.length=us.length) (ih:∀t∈ts,∀u∈us,G 50 [tm t,tm u]=some (vb (dq t u),[])) :
  ∀i,i<=ts.length->jjE (j6 us) (.fn 50 []) (j6 ts) (vi (ts.length:Nat)) (vi i)=some (vb (dq (ts.drop i) (us.drop i)),[]):=by
 refine upto ?_ ?_
 ·rw [jrF,List.drop_length,hlen,List.drop_length,Kd];simp only [jf]
 ·intro i hi ih';have hlt:(i:Int) < ((ts.length:Nat):Int):=by omega
  have hi2:i < us.length:=by omega
  have h5:=jz hi hl;have e1:=ih ts[i] (List.getElem_mem _) us[i] (List.getElem_mem _);rw [jrF,jl hi,jl hi2,jeC];cases hp:dq ts[i] us[i]<;>rw [hp] at e1
  ·simp only [jf,hlt,jb hi,jb hi2,jg,qb (f:=50) rfl,List.append_nil,e1,Bool.false_and]
  ·simp only [jf,hlt,jb hi,jb hi2,jg,qb (f:=50) rfl,List.append_nil,e1,h5,ih',Bool.true_and]
theorem z8:∀s:T,QV s-> ∀t:T,QV t->G 50 [tm s,tm t]=some (vb (dq s t),[]):=by
 refine T.ind λs ih hw t hw'=> ?_;obtain ⟨w1,w2,w3⟩:=(zg s).1 hw;have w3:=(kK _).1 w3;obtain ⟨v1,v2,v3⟩:=(zg t).1 hw';have v3:=(kK _).1 v3;rw [g50,jsq];by_cases hn:s.name=t.name
 ·have e:G 82 [j6 s.args,j6 t.args,.fn 50 []]=some (vb (dq s.args t.args),[]):=by
   rw [g82];by_cases hlen:s.args.length=t.args.length
   ·have key:=jaB s.args t.args w2 hlen (λa ha b hb=>ih a ha (w3 a ha) b (v3 b hb)) 0 (Nat.zero_le _);simp only [Int.natCast_zero,List.drop_zero] at key;rw [hlen] at key;simp only [jf,hlen,key]
   ·have hlen':¬((s.args.length:Nat):Int)=((t.args.length:Nat):Int):=by omega
    simp only [jf,hlen',jij hlen]
  simp only [jf,hn,e,Bool.true_and]
 ·simp only [jf,hn,Bool.false_and]
theorem jgy (n m:List UInt8) (ts us:List T) (hl:ts.length<=9223372036854775807) (hlen:ts.length=us.length) (ih:∀t∈ts,∀u∈us,G 109 [tm t,tm u]=some (vb (dq t u),[])) :
  ∀i,i<=ts.length->jem (vi i) (sv n) (j6 ts) (sv m) (j6 us)=some (vb (dq (ts.drop i) (us.drop i)),[]):=by
 refine upto ?_ ?_
 ·rw [jnF,List.drop_length,hlen,List.drop_length,Kd];simp only [jf,hlen]
 ·intro i hi ih';have hlt:(i:Int) < ((ts.length:Nat):Int):=by omega
  have hi2:i < us.length:=by omega
  have h5:=jz hi hl;have e1:=ih ts[i] (List.getElem_mem _) us[i] (List.getElem_mem _);rw [jnF,jl hi,jl hi2,jeC];cases hp:dq ts[i] us[i]<;>rw [hp] at e1
  ·simp only [jf,hlt,jb hi,jb hi2,jg,e1,Bool.false_and]
  ·simp only [jf,hlt,jb hi,jb hi2,jg,e1,h5,ih',Bool.true_and]
theorem jlo:∀s:T,QV s-> ∀t:T,QV t->G 109 [tm s,tm t]=some (vb (dq s t),[]):=by
 refine T.ind λs ih hw t hw'=> ?_;obtain ⟨w1,w2,w3⟩:=(zg s).1 hw;have w3:=(kK _).1 w3;obtain ⟨v1,v2,v3⟩:=(zg t).1 hw';have v3:=(kK _).1 v3;rw [jvS,jsq];by_cases hn:s.name=t.name
 ·by_cases hlen:s.args.length=t.args.length
  ·have key:=jgy t.name t.name s.args t.args w2 hlen (λa ha b hb=>ih a ha (w3 a ha) b (v3 b hb)) 0 (Nat.zero_le _);simp only [Int.natCast_zero,List.drop_zero] at key;simp only [jf,hn,hlen,key,Bool.true_and]
  ·have hlen':¬((s.args.length:Nat):Int)=((t.args.length:Nat):Int):=by omega
   simp only [jf,hn,hlen',jij hlen,Bool.and_false]
 ·simp only [jf,hn,Bool.false_and]
def rk (o:Ord') (t:T):Int:=ZS 0 (Z3 t.name o.syms)
def jt2 (a b:Int):Int:=if a < b then -1 else if b < a then 1 else 0
def jkF (o:Ord') (s t:T):Int:=if rk o s=rk o t then jt2 (s.args.length:Nat) (t.args.length:Nat) else jt2 (rk o s) (rk o t)
noncomputable def fd:List T->List T->Option (T × T)
 | a::l,b::r=>if dq a b=true then fd l r else some (a,b)
 | _,_=>none
def zT:A:= .agg [sv [],.sl 2 []]
noncomputable def fdR (s t:T):A:=match fd s.args t.args with|some (a,b)=> .tup [tm a,tm b,vb true]|none=> .tup [zT,zT,vb false]
noncomputable def jly (o:Ord'):Nat->T->T->Bool
 | 0,_,_=>false
 | n+1,s,t=>if ju s.name then false else if (s.args.any λa=>dq a t || jly o n a t) then true else if ju t.name then false
   else if (t.args.any λb=> !jly o n s b) then false else if 0 < jkF o s t then true else if jkF o s t < 0 then false
   else match fd s.args t.args with|some (a,b)=>jly o n a b|none=>false
def jq5 (e g l:Bool):Int:=if e then 1 else if g then 2 else if l then 3 else 0
noncomputable def jsm (o:Ord') (s t:T):Int:=jq5 (dq s t) (jly o (nodes s+nodes t) s t) (jly o (nodes s+nodes t) t s)
noncomputable def jsp (o:Ord') (s t:T):A:=if jjg o && (good o s && good o t) then .tup [vi (jsm o s t),vb true] else .tup [vi 0,vb false]
mutual
def yd:T->List (List UInt8)
 | .mk n us=>if ju n then [n] else kO us
def kO:List T->List (List UInt8)
 | []=>[]
 | t::ts=>yd t++kO ts
end
theorem Jj (t:T):yd t=if ju t.name then [t.name] else kO t.args:=by cases t;rfl
def jvr (l:List (List UInt8)) (vs:List (List UInt8)) (k:Nat) (r:List (List UInt8)):Prop:=(∀n,n∈r↔n∈l\/n∈vs)/\r.length<=l.length+k
mutual
def cnt (n:List UInt8):T->Nat
 | .mk m us=>(if m=n then 1 else 0)+jt3 n us
def jt3 (n:List UInt8):List T->Nat
 | []=>0
 | t::ts=>cnt n t+jt3 n ts
end
def bal (s t:T):Bool:=(yd t).all λn=>decide (cnt n t<=cnt n s)
noncomputable def jp2 (o:Ord'):Nat->T->T->Bool
 | 0,_,_=>false
 | n+1,s,t=>if bal s t then (if wt o s=wt o t then (if ju s.name || ju t.name then false else if jkF o s t=0 then (match fd s.args t.args with|some (a,b)=>jp2 o n a b|none=>false) else decide (0 < jkF o s t)) else decide (wt o t < wt o s)) else false
noncomputable def jsl (o:Ord') (s t:T):Int:=jq5 (dq s t) (jp2 o (nodes s+nodes t) s t) (jp2 o (nodes s+nodes t) t s)
noncomputable def jso (o:Ord') (s t:T):A:=if jjg o && (good o s && good o t) then .tup [vi (jsl o s t),vb true] else .tup [vi 0,vb false]
def jex (t:T):T:=t.args.getD 0 (.mk [] [])
def jh8 (t:T):T:=t.args.getD 1 (.mk [] [])
def jgd (t:T):Bool:=decide (t.args.length=2) && (ko t && (zt (jex t) && zt (jh8 t)))
theorem Qv {t:T} (hl:t.args.length=2):jh 2 (j6 t.args) (vi 0)=some (.elt (jx (jex t)) 0)/\jh 2 (j6 t.args) (vi 1)=some (.elt (jx (jh8 t)) 0)/\jex t∈t.args/\jh8 t∈t.args:=by
 have e0:jex t=t.args[0]:=by unfold jex;simp [List.getD_eq_getElem?_getD,hl]
 have e1:jh8 t=t.args[1]:=by unfold jh8;simp [List.getD_eq_getElem?_getD,hl]
 rw [e0,e1];exact ⟨jb (i:=0) (by omega),jb (i:=1) (by omega),List.getElem_mem _,List.getElem_mem _⟩
theorem jiy (t:T) (hw:QV t) (hs:tsz t<=1048576) (he:t.name = [61]):G 34 [tm t]=some (vb (jgd t),[]):=by
 obtain ⟨w1,w2,w3⟩:=(zg t).1 hw;have w3:=(kK _).1 w3;have het:(t.name = [61])=True:=eq_true he;unfold jgd;rw [g34];by_cases hl:t.args.length=2;rotate_left
 ·have hl':¬((t.args.length:Nat):Int)=2:=by omega
  simp only [jf,het,hl',hl,Bool.false_and]
 have hl':((t.args.length:Nat):Int)=2:=by omega
 rw [decide_eq_true hl,Bool.true_and];obtain ⟨i0,i1,ma,mb⟩:=Qv hl;have p1:=jdx t hw hs;have p2:=Ya _ (w3 _ ma);have p3:=Ya _ (w3 _ mb);cases h1:ko t<;>rw [h1] at p1
 ·simp only [jf,het,hl',p1,Bool.false_and,Bool.and_false]
 ·cases h2:zt (jex t)<;>rw [h2] at p2
  ·simp only [jf,het,hl',p1,i0,jg,p2,Bool.false_and,Bool.and_false]
  ·simp only [jf,het,hl',p1,i0,i1,jg,p2,p3,Bool.true_and]
theorem JC (t:T):G 49 [tm t]=some (vb (decide (t.name = [61])),[]):=by
 rw [g49];simp only [jf]
theorem jaD (t:T) (hw:QV t) (hs:tsz t<=1048576) (he:t.name = [61]):G 68 [tm t]=some (vb (jgd t),[]):=by
 obtain ⟨w1,w2,w3⟩:=(zg t).1 hw;have w3:=(kK _).1 w3;have q0:=JC t;rw [decide_eq_true he] at q0;unfold jgd;rw [g68];by_cases hl:t.args.length=2;rotate_left
 ·have hl':¬((t.args.length:Nat):Int)=2:=by omega
  simp only [jf,q0,hl',hl,Bool.false_and]
 have hl':((t.args.length:Nat):Int)=2:=by omega
 rw [decide_eq_true hl,Bool.true_and];obtain ⟨i0,i1,ma,mb⟩:=Qv hl;have p1:=Z9 t hw hs;have p2:=KV _ (w3 _ ma);have p3:=KV _ (w3 _ mb);cases h1:ko t<;>rw [h1] at p1
 ·simp only [jf,q0,hl',p1,Bool.false_and,Bool.and_false]
 ·cases h2:zt (jex t)<;>rw [h2] at p2
  ·simp only [jf,q0,hl',p1,i0,jg,p2,Bool.false_and,Bool.and_false]
  ·simp only [jf,q0,hl',p1,i0,i1,jg,p2,p3,Bool.true_and]
def jw8 (o:Ord') (t:T):Bool:=decide (t.name = [61]) && (jgd t && (jpw o.syms (jex t) && jpw o.syms (jh8 t)))
theorem yH (n:List UInt8) (us:List T):tsz (.mk n us)=n.length+us.length+zu us:=rfl
theorem js5:∀t:T,tsz t<=1048576->QV t:=by
 refine T.ind λt ih h=> ?_;have h':=h;rw [jY] at h';exact (zg t).2 ⟨by omega,by omega,(kK _).2 λu hu=>ih u hu (by have:=y8 hu;omega)⟩
theorem joh {n:Nat} (h:n<=4194304):jJ n 40=true:=by
 unfold jJ;exact decide_eq_true ⟨by omega,by omega⟩
theorem QH (t:T):tsz t<=1048576->G 41 [tm t]=some (tm t,[]):=by
 refine T.ind (p:=λt=>tsz t<=1048576->G 41 [tm t]=some (tm t,[])) ?_ t;intro t ih h;rw [jY] at h;have key:=(upto (P:=λi=>jjB (vi i) (sv t.name) (j6 t.args) (sv []) (sv t.name) [] ((t.args.take i).map jx)=some (tm t,[])) (n:=t.args.length) ?_ ?_ 0 (Nat.zero_le _))
 ·rw [g41];simp only [Int.natCast_zero,List.take_zero,List.map_nil] at key;simp only [jf,key]
 ·rw [jru,List.take_length];simp only [jf]
 ·intro i hi ih';have hlt:(i:Int) < ((t.args.length:Nat):Int):=by omega
  have h5:=jz hi (by show t.args.length<=9223372036854775807;omega)
  have e1:=ih t.args[i] (List.getElem_mem _) (by have:=y8 (List.getElem_mem hi);omega)
  have hf:jJ (i+1) 40=true:=joh (by omega);have hl:((t.args.take i).map jx).length=i:=by rw [List.length_map,List.length_take];omega
  have ha:km ((t.args.take i).map jx) [[sv t.args[i].name,j6 t.args[i].args]]=(t.args.take (i+1)).map jx:=by
   rw [show [sv t.args[i].name,j6 t.args[i].args]=jx t.args[i] from (ku _).symm,List.take_add_one,List.getElem?_eq_getElem hi,List.map_append];rfl
  rw [jru];simp only [jf,hlt,jb hi,jg,e1,hl,hf,ha,h5,ih',List.length_take,Nat.min_eq_left (Nat.le_of_lt hi)]
def Lp (o:Ord') (s t:T):Prop:=jly o (nodes s+nodes t) s t=true
def Kp (o:Ord') (s t:T):Prop:=jp2 o (nodes s+nodes t) s t=true
def rbI (c:Int):Int:=if c=2 then 3 else if c=3 then 2 else c
open Classical in
open Classical in
def look:List (List UInt8 × T)->List UInt8->Option T
 | [],_=>none
 | p::u,n=>if p.1=n then some p.2 else look u n
def JK (u:List (List UInt8 × T)) (n:List UInt8):T:=(look u n).getD (.mk n [])
mutual
def sub (u:List (List UInt8 × T)):T->T
 | .mk n us=>if ju n then JK u n else .mk n (jmb u us)
def jmb (u:List (List UInt8 × T)):List T->List T
 | []=>[]
 | t::ts=>sub u t::jmb u ts
end
theorem jhB (u:List (List UInt8 × T)):∀ts:List T,jmb u ts=ts.map (sub u)
 | []=>rfl
 | t::ts=>by rw [jmb,jhB u ts,List.map_cons]
theorem yG {u:List (List UInt8 × T)} {t:T} (h:ju t.name=true):sub u t=JK u t.name:=by
 obtain ⟨n,us⟩:=t;have h:ju n=true:=h;show (if ju n then JK u n else T.mk n (jmb u us))=_;rw [if_pos h];rfl
theorem yh {u:List (List UInt8 × T)} {t:T} (h:ju t.name=false):sub u t = .mk t.name (t.args.map (sub u)):=by
 obtain ⟨n,us⟩:=t;have h:ju n=false:=h;show (if ju n then JK u n else T.mk n (jmb u us))=_;rw [h,if_neg Bool.false_ne_true,jhB];rfl
theorem Zk {u:List (List UInt8 × T)} {t:T} (h:ju t.name=false):(sub u t).name=t.name:=by rw [yh h];rfl
theorem Zj {u:List (List UInt8 × T)} {t:T} (h:ju t.name=false):(sub u t).args=t.args.map (sub u):=by rw [yh h];rfl
theorem Zm {t:T} (h:zt t=true) (hv:ju t.name=true):t.args = []:=by
 rw [zS,hv,if_pos rfl] at h;exact List.isEmpty_iff.1 h
def jwl (f:List UInt8->Int):List (List UInt8)->Int
 | []=>0
 | x::l=>f x+jwl f l
abbrev bc (p:List UInt8 × T):List A:=[sv p.1,sv p.2.name,.sl 2 (p.2.args.map jx)]
abbrev sbs (u:List (List UInt8 × T)):A:= .sl 3 (u.map bc)
abbrev sb (u:List (List UInt8 × T)):A:= .agg [sbs u]
theorem Yi (p:List UInt8 × T):jF 2 (.elt (bc p) 1)=some (tm p.2):=rfl
theorem kS (p:List UInt8 × T):kZ (.elt (bc p) 0)=some (sv p.1):=rfl
theorem zw (p:List UInt8 × T) (n:Nat):zU (.elt (bc p) 0) n=some (.elt (bc p) n):=by rw [qh,Nat.zero_add]
def Sz (z:Nat) (u:List (List UInt8 × T)):Prop:=u.length<=z/\ ∀p∈u,p.1.length<=z/\tsz p.2<=z
theorem jlq (u:List (List UInt8 × T)) (hl:u.length<=1048576) (n:List UInt8):(look u n=none/\G 65 [sb u,sv n]=some (vi (-1),[]))\/ ∃k,∃h:k < u.length,look u n=some u[k].2/\G 65 [sb u,sv n]=some (vi (k:Nat),[]):=by
 have key:=upto (P:=λi=>(look (u.drop i) n=none/\jfK (sv n) (vi i) (sbs u)=some (vi (-1),[]))\/ ∃k,∃h:k < u.length,look (u.drop i) n=some u[k].2/\jfK (sv n) (vi i) (sbs u)=some (vi (k:Nat),[])) (n:=u.length) ?_ ?_ 0 (Nat.zero_le _)
 ·rw [g65];exact key
 ·left;rw [List.drop_length,jrE];exact ⟨rfl,by simp only [jf]⟩
 ·intro i hi ih;have hlt:(i:Int) < ((u.length:Nat):Int):=by omega
  have h5:=jz hi (by show u.length<=9223372036854775807;omega)
  rw [jrE,jl hi,look];by_cases he:u[i].1=n
  ·right;rw [if_pos he];exact ⟨i,hi,rfl,by simp only [jf,hlt,jb hi,zw,kS,he]⟩
  ·rw [if_neg he];rcases ih with ⟨h1,h2⟩|⟨k,hk,h1,h2⟩
   ·left;exact ⟨h1,by simp only [jf,hlt,jb hi,zw,kS,he,h5,h2]⟩
   ·right;exact ⟨k,hk,h1,by simp only [jf,hlt,jb hi,zw,kS,he,h5,h2]⟩
theorem jiB (u:List (List UInt8 × T)) (hu:Sz 1048576 u) (t:T):tsz t<=1048576->G 36 [sb u,tm t]=some (tm (sub u t),[]):=by
 refine T.ind (p:=λt=>tsz t<=1048576->G 36 [sb u,tm t]=some (tm (sub u t),[])) ?_ t;intro t ih hs;have h:=hs;rw [jY] at h;have e1:=JZ t.name (by show t.name.length<=9223372036854775807;omega);rw [g36];cases hv:ju t.name<;>rw [hv] at e1
 ·have key:=(upto (P:=λi=>jjz (vi i) (sbs u) (sv t.name) (j6 t.args) (sv []) (sv t.name) [] (((t.args.map (sub u)).take i).map jx)=some (tm (sub u t),[])) (n:=t.args.length) ?_ ?_ 0 (Nat.zero_le _))
  ·simp only [Int.natCast_zero,List.take_zero,List.map_nil] at key;simp only [jf,e1,key]
  ·rw [jrr,List.take_of_length_le (by rw [List.length_map];omega),yh hv]
   simp only [jf];rfl
  ·intro i hi ih';have hlt:(i:Int) < ((t.args.length:Nat):Int):=by omega
   have h5:=jz hi (by show t.args.length<=9223372036854775807;omega)
   have e2:=ih t.args[i] (List.getElem_mem _) (by have:=y8 (List.getElem_mem hi);omega)
   have hf:jJ (i+1) 40=true:=joh (by omega);have hi2:i < (t.args.map (sub u)).length:=by rw [List.length_map];exact hi
   have hl:(((t.args.map (sub u)).take i).map jx).length=i:=by rw [List.length_map,List.length_take,List.length_map];omega
   have ha:km (((t.args.map (sub u)).take i).map jx) [[sv (sub u t.args[i]).name,j6 (sub u t.args[i]).args]]=((t.args.map (sub u)).take (i+1)).map jx:=by
    rw [show [sv (sub u t.args[i]).name,j6 (sub u t.args[i]).args]=jx (sub u t.args[i]) from (ku _).symm,List.take_add_one,List.getElem?_eq_getElem hi2,List.map_append,List.getElem_map];rfl
   generalize ((t.args.map (sub u)).take i).map jx=R at *;rw [jrr];simp only [jf,hlt,jb hi,jg,e2,hl,hf,ha,h5,ih']
 ·rw [yG hv,JK];rcases jlq u hu.1 t.name with ⟨h1,h2⟩|⟨k,hk,h1,h2⟩
  ·rw [h1];simp only [jf,e1,h2];rfl
  ·rw [h1];have hm:=hu.2 _ (List.getElem_mem hk);have e3:=QH u[k].2 hm.2;have hk0:(0:Int)<=((k:Nat):Int):=by omega
   simp only [jf,e1,h2,hk0,jb hk,zw,Yi,e3,Option.getD_some]
theorem jgD:∀ {u:List (List UInt8 × T)} {n:List UInt8} {r:T},look u n=some r-> ∃p∈u,p.2=r
 | p::u,n,r,h=>by
  rw [look] at h;by_cases e:p.1=n
  ·rw [if_pos e] at h;cases h;exact ⟨p,by simp,rfl⟩
  ·rw [if_neg e] at h;obtain ⟨q,hq,h⟩:=jgD h;exact ⟨q,by simp [hq],h⟩
theorem jhD {u:List (List UInt8 × T)} {Z:Nat} (hZ:1<=Z) (hu:∀p∈u,tsz p.2<=Z):∀t:T,tsz (sub u t)<=tsz t * Z:=by
 refine T.ind λt ih=> ?_;have hmul:∀n:Nat,n<=n * Z:=λn=>Nat.le_mul_of_pos_right n hZ;cases hv:ju t.name
 ·have hL:∀ts:List T,(∀v∈ts,tsz (sub u v)<=tsz v * Z)->zu (ts.map (sub u))<=zu ts * Z:=by
   intro ts;induction ts with
   | nil=>intro _;simp [zu]
   | cons v vs ih2=>
    intro h;have h1:=h v (by simp);have h2:=ih2 λw hw=>h w (by simp [hw]);simp only [List.map_cons,zu,Nat.add_mul];omega
  have h1:=hL t.args ih;have h2:=hmul t.name.length;have h3:=hmul t.args.length;rw [jY t,jY (sub u t),Zk hv,Zj hv,List.length_map,Nat.add_mul,Nat.add_mul];omega
 ·rw [yG hv,JK];have h1:1<=t.name.length:=by
   cases hn:t.name with
   | nil=>rw [hn] at hv;cases hv
   | cons c r=>simp
  have h2:=jY t;cases hlk:look u t.name with
  | none=>
   have:=hmul t.name.length;show tsz (.mk t.name [])<=_;rw [yH,h2,Nat.add_mul,Nat.add_mul];simp only [List.length_nil,zu];omega
  | some r=>
   obtain ⟨p,hp,rfl⟩:=jgD hlk;have h3:=hu p hp;show tsz p.2<=_;have h4:1 * Z<=tsz t * Z:=Nat.mul_le_mul_right Z (by omega);omega
abbrev jk:=List (List UInt8 × T)
mutual
noncomputable def mt (m:jk) (p:T) (t:T):Option jk:=
 match p with
 | .mk n us=>if ju n then (match look m n with|some r=>if dq r t then some m else none|none=>some (m++[(n,t)]))
   else if n=t.name/\us.length=t.args.length then yw m us t.args else none
termination_by structural p
noncomputable def yw (m:jk) (ps:List T) (ts:List T):Option jk:=
 match ps with
 | []=>some m
 | u::us=>(match ts with | []=>some m|t::ts=>(mt m u t).bind λm'=>yw m' us ts)
termination_by structural ps
end
theorem Jb {m:jk} {p t:T} (h:ju p.name=true):mt m p t=(match look m p.name with|some r=>if dq r t then some m else none|none=>some (m++[(p.name,t)])):=by
 obtain ⟨n,us⟩:=p;have h:ju n=true:=h;simp only [mt,h,if_true,T.name]
theorem yP {m:jk} {p t:T} (h:ju p.name=false):mt m p t=if p.name=t.name/\p.args.length=t.args.length then yw m p.args t.args else none:=by
 obtain ⟨n,us⟩:=p;have h:ju n=false:=h;simp only [mt,h,Bool.false_eq_true,if_false];rfl
theorem Jv:∀(u v:jk) (n:List UInt8),look (u++v) n=(match look u n with|some r=>some r|none=>look v n)
 | [],v,n=>rfl
 | p::u,v,n=>by
  rw [List.cons_append,look,look];by_cases h:p.1=n
  ·rw [if_pos h,if_pos h]
  ·rw [if_neg h,if_neg h];exact Jv u v n
theorem zL {u:jk} {n:List UInt8} :look u n=none↔ ∀p∈u,p.1≠n:=by
 induction u with
 | nil=>simp [look]
 | cons p u ih=>
  rw [look];by_cases h:p.1=n
  ·rw [if_pos h];simp [h]
  ·rw [if_neg h,ih];simp [h]
theorem ye:∀ {u:jk} {n:List UInt8} {r:T},look u n=some r->(n,r)∈u
 | p::u,n,r,h=>by
  rw [look] at h;by_cases e:p.1=n
  ·rw [if_pos e] at h;cases h;rw [<-e];simp
  ·rw [if_neg e] at h;exact List.mem_cons_of_mem _ (ye h)
def Z2 (p:T->Prop) (m:jk):Prop:=(m.map Prod.fst).Nodup/\(∀q∈m,ju q.1=true/\p q.2)
theorem Z2.nil (p:T->Prop):Z2 p []:=⟨by simp,λq h=>by cases h⟩
theorem Z2.push {p:T->Prop} {m:jk} (h:Z2 p m) {n:List UInt8} {t:T} (hn:ju n=true) (ht:p t) (hl:look m n=none):Z2 p (m++[(n,t)]):=by
 refine ⟨?_,λq hq=> ?_⟩
 ·rw [List.map_append,List.nodup_append];refine ⟨h.1,by simp,λa ha b hb=> ?_⟩;simp only [List.map_cons,List.map_nil,List.mem_singleton] at hb;subst hb;obtain ⟨q,hq,rfl⟩:=List.mem_map.1 ha;exact zL.1 hl q hq
 ·rcases List.mem_append.1 hq with hq|hq
  ·exact h.2 q hq
  ·simp only [List.mem_singleton] at hq;subst hq;exact ⟨hn,ht⟩
theorem jgL {p:T->Prop} (hp:∀t,p t-> ∀u∈t.args,p u):∀(a:T) {m m':jk} {t:T},Z2 p m->p t->mt m a t=some m'->Z2 p m':=by
 refine T.ind (p:=λa=>∀ {m m':jk} {t:T},Z2 p m->p t->mt m a t=some m'->Z2 p m') λa ih=> ?_;intro m m' t hm ht h;cases hv:ju a.name with
 | true=>
  rw [Jb hv] at h;split at h
  ·split at h
   ·cases h;exact hm
   ·cases h
  ·rename_i hl;cases h;exact hm.push hv ht hl
 | false=>
  rw [yP hv] at h;split at h
  ·have key:∀(us:List T) (ts:List T) {m m':jk},(∀u∈us,u∈a.args)->(∀u∈ts,p u)->Z2 p m->yw m us ts=some m'->Z2 p m':=by
    intro us;induction us with
    | nil=>intro ts m m' _ _ hm h;simp only [yw,Option.some.injEq] at h;exact h ▸ hm
    | cons u us ih2=>
     intro ts m m' hu hts hm h;cases ts with
     | nil=>simp only [yw,Option.some.injEq] at h;exact h ▸ hm
     | cons s ts=>
      simp only [yw] at h;obtain ⟨m1,h1,h2⟩:=Option.bind_eq_some_iff.1 h;exact ih2 ts (λx hx=>hu x (by simp [hx])) (λx hx=>hts x (by simp [hx])) (ih u (hu u (by simp)) hm (hts s (by simp)) h1) h2
   exact key a.args t.args (λ_ h=>h) (hp t ht) hm h
  ·cases h
def Jo (s:jk) (n:List UInt8) (t:T):jk:=s.takeWhile (λp=>kQ p.1 n)++(n,t)::s.dropWhile (λp=>kQ p.1 n)
def Jn (s:jk) (n:List UInt8) (t:T):jk:=if t.name=n then s else Jo s n t
def jR (m:jk):jk:=m.foldl (λs p=>Jn s p.1 p.2) []
theorem Jz (a:List UInt8):kQ a a=false:=by
 unfold kQ;cases h:Op.bytesLess a a with
 | false=>rfl
 | true=>
  exfalso;induction a with
  | nil=>simp [Op.bytesLess] at h
  | cons c r ih=>simp [Op.bytesLess] at h;exact ih h
theorem jlx (n:List UInt8) (t:T) (x:List UInt8):∀s:jk,look (Jo s n t) x=if n=x then some t else look s x:=by
 intro s;unfold Jo;induction s with
 | nil=>simp [look]
 | cons p s ih=>
  cases hl:kQ p.1 n with
  | true=>
   rw [List.takeWhile_cons_of_pos (p:=λp:List UInt8 × T=>kQ p.1 n) hl,List.dropWhile_cons_of_pos (p:=λp:List UInt8 × T=>kQ p.1 n) hl,List.cons_append,look,ih,look];by_cases h1:p.1=x
   ·rw [if_pos h1,if_pos h1];have:n≠x:=λe=>by rw [h1,<-e,Jz] at hl;cases hl
    rw [if_neg this]
   ·rw [if_neg h1,if_neg h1]
  | false=>
   rw [List.takeWhile_cons_of_neg (p:=λp:List UInt8 × T=>kQ p.1 n) (by simp [hl]),List.dropWhile_cons_of_neg (p:=λp:List UInt8 × T=>kQ p.1 n) (by simp [hl]),List.nil_append,look]
theorem jdB (s:jk) (n:List UInt8) (t:T) (x:List UInt8):look (Jn s n t) x=if n=x/\t.name≠x then some t else look s x:=by
 unfold Jn;by_cases h:t.name=n
 ·rw [if_pos h];by_cases h2:n=x
  ·rw [if_neg (λh3=>h3.2 (h.trans h2))]
  ·rw [if_neg (λh3=>h2 h3.1)]
 ·rw [if_neg h,jlx];by_cases h2:n=x
  ·rw [if_pos h2,if_pos ⟨h2,λe=>h (e.trans h2.symm)⟩]
  ·rw [if_neg h2,if_neg (λh3=>h2 h3.1)]
theorem jb6 (x:List UInt8):∀(m s:jk),(m.map Prod.fst).Nodup->look (m.foldl (λs p=>Jn s p.1 p.2) s) x=(match look m x with|some t=>if t.name=x then look s x else some t|none=>look s x)
 | [],s,_=>rfl
 | p::m,s,hn=>by
  rw [List.map_cons,List.nodup_cons] at hn;rw [List.foldl_cons,jb6 x m _ hn.2,look];by_cases h:p.1=x
  ·have:look m x=none:=zL.2 λq hq e=>hn.1 (by rw [h,<-e];exact List.mem_map_of_mem hq)
   rw [this,if_pos h];show look (Jn s p.1 p.2) x=if p.2.name=x then look s x else some p.2;rw [jdB];by_cases h2:p.2.name=x
   ·rw [if_pos h2,if_neg (λh3=>h3.2 h2)]
   ·rw [if_neg h2,if_pos ⟨h,h2⟩]
  ·rw [if_neg h];have e:look (Jn s p.1 p.2) x=look s x:=by rw [jdB,if_neg (λh3=>h h3.1)]
   rw [e]
theorem ji3 {m:jk} (hm:Z2 (λt=>zt t=true) m) {x:List UInt8} (hx:ju x=true):JK (jR m) x=JK m x:=by
 unfold JK jR;rw [jb6 x m [] hm.1];cases h:look m x with
 | none=>rfl
 | some t=>
  show Option.getD (if t.name=x then look [] x else some t) _=t;by_cases h2:t.name=x
  ·rw [if_pos h2];have hk:=(hm.2 _ (ye h)).2;have ha:=Zm hk (by rw [h2];exact hx);show T.mk x []=t;rw [<-h2,<-ha,T.eta]
  ·rw [if_neg h2];rfl
theorem jmc {u v:jk} (h:∀x,ju x=true->JK u x=JK v x):∀t:T,sub u t=sub v t:=by
 refine T.ind λt ih=> ?_;cases hv:ju t.name with
 | true=>rw [yG hv,yG hv,h _ hv]
 | false=>rw [yh hv,yh hv,List.map_congr_left ih]
theorem jme {m:jk} (hm:Z2 (λt=>zt t=true) m) (t:T):sub (jR m) t=sub m t:=jmc (λ_ hx=>ji3 hm hx) t
theorem jn2 (n:List UInt8) (h:ju n=true):zt (.mk n [])=true:=by rw [zS];show (if ju n then _ else _)=true;rw [if_pos h];rfl
theorem QT {u:jk} (hu:∀q∈u,zt q.2=true):∀t:T,zt t=true->zt (sub u t)=true:=by
 refine T.ind λt ih hk=> ?_;cases hv:ju t.name with
 | true=>
  rw [yG hv,JK];cases h:look u t.name with
  | none=>exact jn2 _ hv
  | some r=>exact hu _ (ye h)
 | false=>
  have hk':=hk;rw [zS,hv,if_neg Bool.false_ne_true,Bool.and_eq_true,Bool.and_eq_true,yD] at hk;rw [zS,Zk hv,hv,if_neg Bool.false_ne_true,Zj hv,Bool.and_eq_true,Bool.and_eq_true,yD];refine ⟨hk.1,by simpa using hk.2.1,?_⟩;rw [List.all_map,List.all_eq_true];intro a ha;exact ih a ha (List.all_eq_true.1 hk.2.2 a ha)
def J0 (r:T):T:=r.args.getD 0 (.mk [] [])
def J5 (r:T):T:=r.args.getD 1 (.mk [] [])
noncomputable def joC:List T->T->Option T
 | [],_=>none
 | r::rs,t=>(match mt [] (J0 r) t with|some m=>some (sub m (J5 r))|none=>joC rs t)
mutual
noncomputable def jur (rs:List T) (root:Bool):T->Option T
 | .mk n us=>(match jrO rs us with|some us'=>some (.mk n us')|none=>if root then joC rs (.mk n us) else none)
noncomputable def jrO (rs:List T):List T->Option (List T)
 | []=>none
 | t::ts=>(match jur rs true t with|some t'=>some (t'::ts)|none=>(jrO rs ts).map (t::·))
end
def atT:List Nat->T->T
 | [],t=>t
 | i::p,t=>atT p (t.args.getD i (.mk [] []))
def jr1 (s:T):List Nat->T->T
 | [],_=>s
 | i::p,t=> .mk t.name (t.args.set i (jr1 s p (t.args.getD i (.mk [] []))))
mutual
def jha:T->List (List Nat)
 | .mk _ us=>jco 0 us++[[]]
def jco (i:Nat):List T->List (List Nat)
 | []=>[]
 | t::ts=>(jha t).map (i::·)++jco (i+1) ts
end
noncomputable def jwk (rs:List T) (root:Bool) (t:T) (p:List Nat):Option T:=if p = []/\root=false then none else (joC rs (atT p t)).map λs=>jr1 s p t
def jpf (rs:List T):Prop:=∀r∈rs,zt (J0 r)=true/\zt (J5 r)=true
noncomputable def rwN (rs:List T) (root:Bool):Nat->Nat->T->Option (T × Nat)
 | 0,_,_=>none
 | k+1,n,t=>(match jur rs root t with
  | none=>some (t,n)
  | some u=>if k=0\/ko u=false then none else rwN rs root k (n+1) u)
theorem jeB (ts:List T) (hl:ts.length<=1048576) (ih:∀t∈ts,G 75 [tm t]=some (tm t,[])):jh1 (j6 ts)=some (.top,[j6 ts]):=by
 rw [jsh];by_cases h0:ts.length=0
 ·have:ts = []:=List.length_eq_zero_iff.1 h0;subst this;simp only [jf,Int.natCast_zero];rfl
 have hz:¬((ts.length:Nat):Int)=0:=by omega
 have hm:=jdN (b:=40) (n:=ts.length) (by omega) hl;have key:=(upto (P:=λi=>Yt (j6 ts) (vi (ts.length:Nat)) (vi i) (part jx [sv [],.sl 2 []] ts i)=some (.top,[j6 ts])) (n:=ts.length) ?_ ?_ 0 (Nat.zero_le _))
 ·simp only [Int.natCast_zero,<-jdP] at key;simp only [jf,hz,hm,key]
 ·rw [jgx,jg6];simp only [jf]
 ·intro i hi ih';have hlt:(i:Int) < ((ts.length:Nat):Int):=by omega
  have h1:=jam (f:=jx) (z:=[sv [],.sl 2 []]) (Nat.le_of_lt hi);have h2:KE (part jx [sv [],.sl 2 []] ts i).length (vi i)=some i:=ze (by omega);have h4:=jg8 (f:=jx) (z:=[sv [],.sl 2 []]) hi;rw [ku] at h4;have h5:=jz hi (Nat.le_trans hl (by decide));have e1:G 75 [A.agg [sv ts[i].name,j6 ts[i].args]]=_:=ih ts[i] (List.getElem_mem _);rw [jgx];simp only [jf,hlt,jb hi,jg,e1,List.getElem?_cons_zero,h2,jg7 hi,YL,h4,h5,ih']
theorem KR (t:T):tsz t<=1048576->G 75 [tm t]=some (tm t,[]):=by
 refine T.ind (p:=λt=>tsz t<=1048576->G 75 [tm t]=some (tm t,[])) ?_ t;intro t ih h;rw [jY] at h;have e1:=jeB t.args (by omega) λu hu=>ih u hu (by have:=y8 hu;omega);rw [g75];simp only [jf,e1]
theorem QL:pNo (vb false)=some ():=rfl
theorem juL:slL [259] [[]] = [.sl 259 []]:=rfl
theorem je7 {n:Nat} (h:n<=4194304):jJ n 56=true:=by
 unfold jJ;exact decide_eq_true ⟨by omega,by omega⟩
theorem je0 {p:T->Prop} (hp:∀t,p t-> ∀u∈t.args,p u):∀(a:T) {m m':jk} {t:T},(∀q∈m,p q.2)->p t->mt m a t=some m'->(∀q∈m',p q.2)/\m'.length<=m.length+nodes a:=by
 refine T.ind (p:=λa=>∀ {m m':jk} {t:T},(∀q∈m,p q.2)->p t->mt m a t=some m'->(∀q∈m',p q.2)/\m'.length<=m.length+nodes a) λa ih=> ?_;intro m m' t hm ht h;have hn:=jN a;cases hv:ju a.name with
 | true=>
  rw [Jb hv] at h;split at h
  ·split at h
   ·cases h;exact ⟨hm,by omega⟩
   ·cases h
  ·cases h;refine ⟨λq hq=> ?_,by rw [List.length_append,List.length_singleton];omega⟩;rcases List.mem_append.1 hq with hq|hq
   ·exact hm q hq
   ·simp only [List.mem_singleton] at hq;subst hq;exact ht
 | false=>
  rw [yP hv] at h;split at h
  ·have key:∀(us:List T) (ts:List T) {m m':jk},(∀u∈us,u∈a.args)->(∀u∈ts,p u)->(∀q∈m,p q.2)->yw m us ts=some m'->(∀q∈m',p q.2)/\m'.length<=m.length+jA us:=by
    intro us;induction us with
    | nil=>intro ts m m' _ _ hm h;simp only [yw,Option.some.injEq] at h;exact h ▸ ⟨hm,by omega⟩
    | cons u us ih2=>
     intro ts m m' hu hts hm h;have e:jA (u::us)=nodes u+jA us:=rfl;cases ts with
     | nil=>simp only [yw,Option.some.injEq] at h;exact h ▸ ⟨hm,by omega⟩
     | cons s ts=>
      simp only [yw] at h;obtain ⟨m1,h1,h2⟩:=Option.bind_eq_some_iff.1 h;obtain ⟨i1,i2⟩:=ih u (hu u (by simp)) hm (hts s (by simp)) h1;obtain ⟨j1,j2⟩:=ih2 ts (λx hx=>hu x (by simp [hx])) (λx hx=>hts x (by simp [hx])) i1 h2;exact ⟨j1,by omega⟩
   obtain ⟨i1,i2⟩:=key a.args t.args (λ_ h=>h) (hp t ht) hm h;exact ⟨i1,by omega⟩
  ·cases h
def MR (o:Option Out) (r:Option jk):Prop:=match r with
 | some m'=>o=some (.top,[vb true,.sl 259 (m'.map bc)])
 | none=>∃R,o=some (.top,[vb false,.sl 259 R])
theorem jgZ {m:jk} {i:Nat} (hi:i < m.length):yE (m.map bc) i 0=some (sv m[i].1):=by unfold yE;simp [hi]
theorem joo {m:jk} {i:Nat} (hi:i < m.length):zB (m.map bc) i 1 2=some (tm m[i].2):=by unfold zB;simp [hi]
def Tz (t:T):Prop:=tsz t<=1048576
theorem Tz.args {t:T} (h:Tz t):∀u∈t.args,Tz u:=λu hu=>by
 have:=y8 hu;unfold Tz at h ⊢;rw [jY] at h;omega
theorem Tz.wf {t:T} (h:Tz t):QV t:=js5 t h
theorem jlr (n:List UInt8) (x:A) (t:T) (ht:Tz t) (m:jk) (hm:∀q∈m,Tz q.2) (hl:m.length<=4000000) (hx:jP x=true):MR (YA (vi 0) (sv n) x (sv t.name) (j6 t.args) (m.map bc)) (match look m n with|some r=>if dq r t then some m else none|none=>some (m++[(n,t)])):=by
 have key:=upto (P:=λi=>MR (YA (vi i) (sv n) x (sv t.name) (j6 t.args) (m.map bc)) (match look (m.drop i) n with|some r=>if dq r t then some m else none|none=>some (m++[(n,t)]))) (n:=m.length) ?_ ?_ 0 (Nat.zero_le _)
 ·exact key
 ·rw [List.drop_length,jkl];have hf:=je7 (n:=m.length+1) (by omega);show _=_;simp only [jf,hx,hf];rw [List.map_append];rfl
 ·intro i hi ih;have hlt:(i:Int) < ((m.length:Nat):Int):=by omega
  have h5:=jz hi (by show m.length<=9223372036854775807;omega)
  have x1:KE m.length (vi ((i:Nat):Int))=some i:=ze hi;have x2:=jgZ hi;have x3:=joo hi;have e1:=jlo m[i].2 (hm _ (List.getElem_mem hi)).wf t ht.wf;rw [jkl,jl hi,look];by_cases he:m[i].1=n
  ·rw [if_pos he];show MR _ (if dq m[i].2 t=true then some m else none);cases hd:dq m[i].2 t<;>rw [hd] at e1
   ·rw [if_neg Bool.false_ne_true];refine ⟨m.map bc,?_⟩;simp only [jf,hlt,x1,x2,x3,he,e1]
   ·rw [if_pos rfl];show _=_;simp only [jf,hlt,x1,x2,x3,he,e1]
  ·rw [if_neg he];simp only [jf,hlt,x1,x2,x3,he,h5];exact ih
theorem jiD (a t:T) (ht:Tz t) (ha:Tz a) (hl:a.args.length=t.args.length) (m:jk) (hm:∀q∈m,Tz q.2) (hk:m.length+jA a.args<=4000000)
  (ih:∀u∈a.args,∀(s:T) (m:jk),Tz s->(∀q∈m,Tz q.2)->m.length+nodes u<=4000000->MR (jbf (tm u) (tm s) (m.map bc)) (mt m u s)) :
  MR (jaR (vi 0) (sv a.name) (j6 a.args) (sv t.name) (j6 t.args) (m.map bc)) (yw m a.args t.args):=by
 have ha':=ha;unfold Tz at ha;rw [jY] at ha;have nd:∀i,i < a.args.length->jA (a.args.drop i)=jA a.args->True:=λ_ _ _=>trivial;have key2:=upto (P:=λi=>∀m:jk,(∀q∈m,Tz q.2)->m.length+jA (a.args.drop i)<=4000000->MR (jaS (vi i) (sv a.name) (j6 a.args) (sv t.name) (j6 t.args) (m.map bc)) (yw m (a.args.drop i) (t.args.drop i))) (n:=a.args.length) ?_ ?_;rotate_left
 ·intro m hm hk;rw [List.drop_length,jeR];simp only [yw];show _=_;simp only [jf]
 ·intro i hi ih2 m hm hk;have hi':i < t.args.length:=by omega
  have hlt:(i:Int) < ((a.args.length:Nat):Int):=by omega
  have h5:=jz hi (by show a.args.length<=9223372036854775807;omega)
  have e:jA (a.args.drop i)=nodes a.args[i]+jA (a.args.drop (i+1)):=by rw [jl hi];rfl
  have q:=ih a.args[i] (List.getElem_mem _) t.args[i] m (ht.args _ (List.getElem_mem _)) hm (by omega);rw [jl hi,jl hi',jeR];simp only [yw];cases hq:mt m a.args[i] t.args[i] with
  | none=>
   rw [hq] at q;obtain ⟨R,q⟩:=q;refine ⟨[],?_⟩;simp only [jf,hlt,jb hi,jb hi',jg,q,List.getElem?_cons_zero,QL,juL]
  | some m1=>
   rw [hq] at q;have q:jbf (tm a.args[i]) (tm t.args[i]) (m.map bc)=some (.top,[vb true,.sl 259 (m1.map bc)]):=q;obtain ⟨i1,i2⟩:=je0 (p:=Tz) (λ_ h=>h.args) _ hm (ht.args _ (List.getElem_mem hi')) hq;simp only [jf,hlt,jb hi,jb hi',jg,q,List.getElem?_cons_zero,h5];exact ih2 m1 i1 (by omega)
 have e1:∀(m:jk) (i:Nat),jaR (vi i) (sv a.name) (j6 a.args) (sv t.name) (j6 t.args) (m.map bc)=jaS (vi i) (sv a.name) (j6 a.args) (sv t.name) (j6 t.args) (m.map bc):=λm i=>by
  rw [jp5,jeR]
 have:=key2 0 (Nat.zero_le _) m hm hk;rw [<-e1] at this;exact this
theorem jiC:∀(a:T),Tz a-> ∀(t:T) (m:jk),Tz t->(∀q∈m,Tz q.2)->m.length+nodes a<=4000000->MR (jbf (tm a) (tm t) (m.map bc)) (mt m a t):=by
 refine T.ind λa ih ha t m ht hm hk=> ?_;have hn:=jN a;have e1:=JZ a.name (((zg a).1 ha.wf).1);have hal:a.args.length<=1048576:=by unfold Tz at ha;rw [jY] at ha;omega
 rw [jtV];cases hv:ju a.name<;>rw [hv] at e1
 ·rw [yP hv];by_cases he:a.name=t.name/\a.args.length=t.args.length
  ·rw [if_pos he];have hl:((a.args.length:Nat):Int)=((t.args.length:Nat):Int):=by omega
   have:=jiD a t ht ha he.2 m hm (by omega) λu hu s m hs hm hk=>ih u hu (ha.args u hu) s m hs hm hk;rw [he.1] at e1 this;simp only [jf,he.1,e1,hl];exact this
  ·rw [if_neg he];refine ⟨m.map bc,?_⟩;by_cases h1:a.name=t.name
   ·have hl:¬((a.args.length:Nat):Int)=((t.args.length:Nat):Int):=λh=>he ⟨h1,by omega⟩;rw [h1] at e1;simp only [jf,e1,h1,hl]
   ·simp only [jf,e1,h1]
 ·rw [Jb hv];have:=jlr a.name (j6 a.args) t ht m hm (by omega) (jnZ _ _);simp only [jf,e1];exact this
abbrev kv (p:List UInt8 × T):List A:=[sv p.1,tm p.2]
theorem jsr (a b:List UInt8):eqK none (sv a) (sv b)=some (decide (a=b)):=by show some (decide (bs _=bs _))=_;refine congrArg some (decide_eq_decide.2 ?_);simp
theorem Ki (n:List UInt8):∀(m:jk) (k:Nat),qx none (sv n) (m.map kv) k=some (match look m n with|some _=>(match m.findIdx? (λp=>decide (p.1=n)) with|some j=>some (k+j,tm ((look m n).getD (.mk [] [])))|none=>none)|none=>none)
 | [],k=>rfl
 | p::m,k=>by
  rw [List.map_cons,look,qx,jsr];by_cases h:p.1=n
  ·rw [if_pos h,decide_eq_true h.symm,List.findIdx?_cons,if_pos (decide_eq_true h)];rfl
  ·rw [if_neg h,decide_eq_false (λe=>h e.symm),List.findIdx?_cons,if_neg (by simp [h])];show qx none (sv n) (m.map kv) (k+1)=_;rw [Ki n m (k+1)];cases look m n with
   | none=>rfl
   | some r=>
    cases m.findIdx? (λp=>decide (p.1=n)) with
    | none=>rfl
    | some j=>show some (some (k+1+j,_))=some (some (k+(j+1),_));rw [show k+1+j=k+(j+1) by omega]
theorem jb5 {n:List UInt8} :∀ {m:jk} {r:T},look m n=some r-> ∃j,m.findIdx? (λp=>decide (p.1=n))=some j/\m.set j (n,r)=m
 | p::m,r,h=>by
  rw [look] at h;rw [List.findIdx?_cons];by_cases e:p.1=n
  ·rw [if_pos e] at h;rw [if_pos (decide_eq_true e)];cases h;exact ⟨0,rfl,by rw [<-e];rfl⟩
  ·rw [if_neg e] at h;rw [if_neg (by simp [e])];obtain ⟨j,h1,h2⟩:=jb5 h;exact ⟨j+1,by rw [h1];rfl,by rw [List.set_cons_succ,h2]⟩
theorem jgX (z:List A) (m:jk) (n:List UInt8):K4 none true false z (.mp (m.map kv)) (sv n)=some (match look m n with|some r=> .tup [tm r,vb true]|none=> .tup [.agg z,vb false]):=by
 show ((some (m.map kv)).bind λxs=>(qx none (sv n) xs 0).map (jnR true false z))=_;rw [Option.bind_some,Ki];cases h:look m n with
 | none=>rfl
 | some r=>
  obtain ⟨j,h1,_⟩:=jb5 h;show (some (match m.findIdx? _ with|some j=>some (0+j,tm r)|none=>none)).map _=_;rw [h1];rfl
theorem QM {m:jk} {n:List UInt8} (h:look m n=none) (t:T):je9 none (m.map kv) (sv n) (tm t)=some ((m++[(n,t)]).map kv):=by
 show (qx none (sv n) (m.map kv) 0).map _=_;rw [Ki,h,List.map_append];rfl
theorem jdO {m:jk} {n:List UInt8} {r:T} (h:look m n=some r) (a:A):∃R,je9 none (m.map kv) (sv n) a=some R/\(a=tm r->R=m.map kv):=by
 obtain ⟨j,h1,h2⟩:=jb5 h;refine ⟨(m.map kv).set j [sv n,a],?_,λe=> ?_⟩
 ·show (qx none (sv n) (m.map kv) 0).map _=_;rw [Ki,h];show (some (match m.findIdx? _ with|some j=>some (0+j,tm r)|none=>none)).map _=_;rw [h1];show some ((m.map kv).set (0+j) [sv n,a])=_;rw [Nat.zero_add]
 ·rw [e];have:([sv n,tm r]:List A)=kv (n,r):=rfl;rw [this,<-List.map_set,h2]
def MI (o:Option Out) (r:Option jk):Prop:=match r with
 | some m'=>o=some (.top,[vb true,.sl 128 (m'.map kv)])
 | none=>∃R,o=some (.top,[vb false,.sl 128 R])
theorem jlj (a t:T) (ht:Tz t) (ha:Tz a) (hl:a.args.length=t.args.length) (m:jk) (hm:∀q∈m,Tz q.2)
  (ih:∀u∈a.args,∀(s:T) (m:jk),Tz s->(∀q∈m,Tz q.2)->MI (KH (sv u.name) (j6 u.args) (tm s) (m.map kv)) (mt m u s)) :
  MI (Yz (j6 a.args) (vi (a.args.length:Nat)) (vi 0) (sv t.name) (j6 t.args) (m.map kv)) (yw m a.args t.args):=by
 have ha':=ha;unfold Tz at ha;rw [jY] at ha;have key2:=upto (P:=λi=>∀m:jk,(∀q∈m,Tz q.2)->MI (Yz (j6 a.args) (vi (a.args.length:Nat)) (vi i) (sv t.name) (j6 t.args) (m.map kv)) (yw m (a.args.drop i) (t.args.drop i))) (n:=a.args.length) ?_ ?_;rotate_left
 ·intro m hm;rw [List.drop_length,jkk];simp only [yw];show _=_;simp only [jf]
 ·intro i hi ih2 m hm;have hi':i < t.args.length:=by omega
  have hlt:(i:Int) < ((a.args.length:Nat):Int):=by omega
  have h5:=jz hi (by show a.args.length<=9223372036854775807;omega)
  have q:=ih a.args[i] (List.getElem_mem _) t.args[i] m (ht.args _ (List.getElem_mem _)) hm;rw [jl hi,jl hi',jkk];simp only [yw];cases hq:mt m a.args[i] t.args[i] with
  | none=>
   rw [hq] at q;obtain ⟨R,q⟩:=q;refine ⟨R,?_⟩;simp only [jf,hlt,jb hi,jb hi',jg,q,List.getElem?_cons_zero]
  | some m1=>
   rw [hq] at q;have q:KH (sv a.args[i].name) (j6 a.args[i].args) (tm t.args[i]) (m.map kv)=some (.top,[vb true,.sl 128 (m1.map kv)]):=q;obtain ⟨i1,i2⟩:=je0 (p:=Tz) (λ_ h=>h.args) _ hm (ht.args _ (List.getElem_mem hi')) hq;simp only [jf,hlt,jb hi,jb hi',jg,q,List.getElem?_cons_zero,h5];exact ih2 m1 i1
 exact key2 0 (Nat.zero_le _) m hm
theorem jli (a t:T) (ht:Tz t) (ha:Tz a) (hl:a.args.length=t.args.length) (m:jk) (hm:∀q∈m,Tz q.2)
  (ih:∀u∈a.args,∀(s:T) (m:jk),Tz s->(∀q∈m,Tz q.2)->MI (KH (sv u.name) (j6 u.args) (tm s) (m.map kv)) (mt m u s)) :
  MI (Yy (j6 a.args) (vi (a.args.length:Nat)) (vi 0) (sv t.name) (j6 t.args) (m.map kv)) (yw m a.args t.args):=by
 have ha':=ha;unfold Tz at ha;rw [jY] at ha;have key2:=upto (P:=λi=>∀m:jk,(∀q∈m,Tz q.2)->MI (Yy (j6 a.args) (vi (a.args.length:Nat)) (vi i) (sv t.name) (j6 t.args) (m.map kv)) (yw m (a.args.drop i) (t.args.drop i))) (n:=a.args.length) ?_ ?_;rotate_left
 ·intro m hm;rw [List.drop_length,jkj];simp only [yw];show _=_;simp only [jf]
 ·intro i hi ih2 m hm;have hi':i < t.args.length:=by omega
  have hlt:(i:Int) < ((a.args.length:Nat):Int):=by omega
  have h5:=jz hi (by show a.args.length<=9223372036854775807;omega)
  have q:=ih a.args[i] (List.getElem_mem _) t.args[i] m (ht.args _ (List.getElem_mem _)) hm;rw [jl hi,jl hi',jkj];simp only [yw];cases hq:mt m a.args[i] t.args[i] with
  | none=>
   rw [hq] at q;obtain ⟨R,q⟩:=q;refine ⟨R,?_⟩;simp only [jf,hlt,jb hi,jb hi',jg,q,List.getElem?_cons_zero]
  | some m1=>
   rw [hq] at q;have q:KH (sv a.args[i].name) (j6 a.args[i].args) (tm t.args[i]) (m.map kv)=some (.top,[vb true,.sl 128 (m1.map kv)]):=q;obtain ⟨i1,i2⟩:=je0 (p:=Tz) (λ_ h=>h.args) _ hm (ht.args _ (List.getElem_mem hi')) hq;simp only [jf,hlt,jb hi,jb hi',jg,q,List.getElem?_cons_zero,h5];exact ih2 m1 i1
 exact key2 0 (Nat.zero_le _) m hm
theorem jnz (a:T) (ha:Tz a) (hk:zt a=true) (t:T) (m:jk) (ht:Tz t) (hm:∀q∈m,Tz q.2)
  (ih:∀u∈a.args,∀(s:T) (m:jk),Tz s->(∀q∈m,Tz q.2)->MI (KH (sv u.name) (j6 u.args) (tm s) (m.map kv)) (mt m u s)) :
  MI (KH (sv a.name) (j6 a.args) (tm t) (m.map kv)) (mt m a t):=by
 have e1:G 102 [.agg [sv a.name,j6 a.args]]=some (vb (ju a.name),[]):=jbS a hk;have hal:a.args.length<=1048576:=by unfold Tz at ha;rw [jY] at ha;omega
 rw [jtT];cases hv:ju a.name<;>rw [hv] at e1
 ·rw [yP hv];have pk:(if ((a.args.length:Nat):Int)=0 then G 102 [.agg [sv a.name,j6 a.args]] else some (vb false,[]))=some (vb false,[]):=by split<;>first|exact e1|rfl
  by_cases he:a.name=t.name/\a.args.length=t.args.length
  ·rw [if_pos he];have hl:((a.args.length:Nat):Int)=((t.args.length:Nat):Int):=by omega
   have:=jlj a t ht ha he.2 m hm ih;by_cases h0:((a.args.length:Nat):Int)=0
   ·have h0':((t.args.length:Nat):Int)=0:=by omega
    rw [he.1] at e1;rw [he.2,h0'] at this;simp only [jf,he.1,h0',e1,hl];exact this
   ·have h0':¬((t.args.length:Nat):Int)=0:=by omega
    rw [he.1] at e1;rw [he.2] at this;simp only [jf,he.1,h0',hl];exact this
  ·rw [if_neg he];refine ⟨m.map kv,?_⟩;by_cases h1:a.name=t.name
   ·have hl:¬((a.args.length:Nat):Int)=((t.args.length:Nat):Int):=λh=>he ⟨h1,by omega⟩;rw [h1] at e1;by_cases h0:((a.args.length:Nat):Int)=0
    ·have hl0:¬(0:Int)=((t.args.length:Nat):Int):=by omega
     simp only [jf,e1,h1,h0,hl0]
    ·simp only [jf,h1,h0,hl]
   ·by_cases h0:((a.args.length:Nat):Int)=0
    ·simp only [jf,e1,h1,h0]
    ·simp only [jf,h1,h0]
 ·rw [Jb hv];have h0:a.args = []:=Zm hk hv;rw [h0] at e1;have hz:(((0:Nat):Int)=0)=True:=by simp
  have lk:=jgX [sv [],.sl 2 []] m a.name;cases hl:look m a.name with
  | none=>
   rw [hl] at lk;have lk:K4 none true false [sv [],.sl 2 []] (.mp (m.map kv)) (sv a.name)=some (.tup [.agg [sv [],.sl 2 []],vb false]):=lk;have pp:=QM hl t;show _=_;rw [h0];simp only [jf,e1,hz,lk,pp,List.map_nil]
  | some r=>
   rw [hl] at lk;have lk:K4 none true false [sv [],.sl 2 []] (.mp (m.map kv)) (sv a.name)=some (.tup [tm r,vb true]):=lk;obtain ⟨R,pp,hR⟩:=jdO hl (tm t);have e2:=z8 r (hm _ (ye hl)).wf t ht.wf;show MI _ (if dq r t=true then some m else none);rw [h0];cases hd:dq r t<;>rw [hd] at e2
   ·rw [if_neg Bool.false_ne_true];refine ⟨R,?_⟩;simp only [jf,e1,hz,lk,pp,e2,List.map_nil]
   ·rw [if_pos rfl];have hr:R=m.map kv:=hR (by rw [zv.1 hd]);rw [hr] at pp;show _=_;simp only [jf,e1,hz,lk,pp,e2,List.map_nil]
theorem jlh (a:T) (ha:Tz a) (e1:G 102 [.agg [sv a.name,j6 a.args]]=some (vb (ju a.name),[])) (hva:ju a.name=true->a.args = []) (t:T) (m:jk) (ht:Tz t) (hm:∀q∈m,Tz q.2)
  (ih:∀u∈a.args,∀(s:T) (m:jk),Tz s->(∀q∈m,Tz q.2)->MI (KH (sv u.name) (j6 u.args) (tm s) (m.map kv)) (mt m u s)) :
  MI (jfC (tm a) (sv t.name) (j6 t.args) (m.map kv)) (mt m a t):=by
 have hal:a.args.length<=1048576:=by unfold Tz at ha;rw [jY] at ha;omega
 rw [jtS];cases hv:ju a.name<;>rw [hv] at e1
 ·rw [yP hv];have pk:(if ((a.args.length:Nat):Int)=0 then G 102 [.agg [sv a.name,j6 a.args]] else some (vb false,[]))=some (vb false,[]):=by split<;>first|exact e1|rfl
  by_cases he:a.name=t.name/\a.args.length=t.args.length
  ·rw [if_pos he];have hl:((a.args.length:Nat):Int)=((t.args.length:Nat):Int):=by omega
   have:=jli a t ht ha he.2 m hm ih;by_cases h0:((a.args.length:Nat):Int)=0
   ·have h0':((t.args.length:Nat):Int)=0:=by omega
    rw [he.1] at e1;rw [he.2,h0'] at this;simp only [jf,he.1,h0',e1,hl];exact this
   ·have h0':¬((t.args.length:Nat):Int)=0:=by omega
    rw [he.1] at e1;rw [he.2] at this;simp only [jf,he.1,h0',hl];exact this
  ·rw [if_neg he];refine ⟨m.map kv,?_⟩;by_cases h1:a.name=t.name
   ·have hl:¬((a.args.length:Nat):Int)=((t.args.length:Nat):Int):=λh=>he ⟨h1,by omega⟩;rw [h1] at e1;by_cases h0:((a.args.length:Nat):Int)=0
    ·have hl0:¬(0:Int)=((t.args.length:Nat):Int):=by omega
     simp only [jf,e1,h1,h0,hl0]
    ·simp only [jf,h1,h0,hl]
   ·by_cases h0:((a.args.length:Nat):Int)=0
    ·simp only [jf,e1,h1,h0]
    ·simp only [jf,h1,h0]
 ·rw [Jb hv];have h0:a.args = []:=hva hv;rw [h0] at e1;have hz:(((0:Nat):Int)=0)=True:=by simp
  have hta:tm a = .agg [sv a.name,j6 []]:=by show A.agg [_,A.sl 2 (a.args.map jx)]=_;rw [h0]
  have lk:=jgX [sv [],.sl 2 []] m a.name;cases hl:look m a.name with
  | none=>
   rw [hl] at lk;have lk:K4 none true false [sv [],.sl 2 []] (.mp (m.map kv)) (sv a.name)=some (.tup [.agg [sv [],.sl 2 []],vb false]):=lk;have pp:=QM hl t;show _=_;rw [hta];simp only [jf,e1,hz,lk,pp,List.map_nil]
  | some r=>
   rw [hl] at lk;have lk:K4 none true false [sv [],.sl 2 []] (.mp (m.map kv)) (sv a.name)=some (.tup [tm r,vb true]):=lk;obtain ⟨R,pp,hR⟩:=jdO hl (tm t);have e2:=z8 r (hm _ (ye hl)).wf t ht.wf;show MI _ (if dq r t=true then some m else none);rw [hta];cases hd:dq r t<;>rw [hd] at e2
   ·rw [if_neg Bool.false_ne_true];refine ⟨R,?_⟩;simp only [jf,e1,hz,lk,pp,e2,List.map_nil]
   ·rw [if_pos rfl];have hr:R=m.map kv:=hR (by rw [zv.1 hd]);rw [hr] at pp;show _=_;simp only [jf,e1,hz,lk,pp,e2,List.map_nil]
theorem jnT:∀(a:T),Tz a->zt a=true-> ∀(t:T) (m:jk),Tz t->(∀q∈m,Tz q.2)->MI (KH (sv a.name) (j6 a.args) (tm t) (m.map kv)) (mt m a t):=by
 refine T.ind λa ih ha hk t m ht hm=> ?_;exact jnz a ha hk t m ht hm λu hu s m hs hm=>ih u hu (ha.args u hu) (zz hk u hu) s m hs hm
theorem QQ (n:List UInt8) (t:T):∀(s:jk) (i:Nat),i<=s.length->(∀j,(h:j < i)-> ∀h':j < s.length,kQ s[j].1 n=true)->((∃h:i < s.length,kQ s[i].1 n=false)\/i=s.length)->Jo s n t=s.take i++(n,t)::s.drop i
 | [],i,hi,_,_=>by
  have:i=0:=by simpa using hi
  subst this;rfl
 | p::s,0,_,_,h=>by
  have hp:kQ p.1 n=false:=by
   rcases h with ⟨_,h⟩|h
   ·exact h
   ·cases h
  unfold Jo;rw [List.takeWhile_cons_of_neg (p:=λp:List UInt8 × T=>kQ p.1 n) (by simp [hp]),List.dropWhile_cons_of_neg (p:=λp:List UInt8 × T=>kQ p.1 n) (by simp [hp])];rfl
 | p::s,i+1,hi,h1,h=>by
  have hp:kQ p.1 n=true:=h1 0 (by omega) (by simp);have:=QQ n t s i (by simpa using hi) (λj hj hj'=>h1 (j+1) (by omega) (by simpa using hj')) (by
   rcases h with ⟨h,h2⟩|h
   ·exact Or.inl ⟨by simpa using h,h2⟩
   ·exact Or.inr (by simpa using h))
  unfold Jo at this ⊢;rw [List.takeWhile_cons_of_pos (p:=λp:List UInt8 × T=>kQ p.1 n) hp,List.dropWhile_cons_of_pos (p:=λp:List UInt8 × T=>kQ p.1 n) hp,List.cons_append,this];rfl
theorem J3 {α:Type} (f:α->List A) (l:List α):yV (l.map f)=l.length:=List.length_map ..
theorem jhd (u:jk) (hl:u.length<=1000000) (i:Nat) (hi:i<=u.length) :
  pB u.length u.length (some (vi (i:Nat)))=some i/\yl (u.map bc) 0 i=(u.take i).map bc/\jJ (u.take i).length 56=true/\pB u.length u.length none=some u.length/\pB 0 u.length (some (vi (i:Nat)))=some i/\yl (u.map bc) i (u.length - i)=(u.drop i).map bc/\qi (u.map bc) 0=u.length/\jJ ((u.take i).length+1) 56=true/\jJ ((u.take i).length+1+(u.drop i).length) 56=true:=by
 refine ⟨Qc hi,by rw [yl,List.drop_zero,List.map_take],je7 (by rw [List.length_take];omega),Jc (Nat.le_refl _),Qc hi,?_,by rw [qi,List.length_map];rfl,je7 (by rw [List.length_take];omega),je7 (by rw [List.length_take,List.length_drop];omega)⟩
 rw [yl,<-List.map_drop,List.take_of_length_le (by rw [List.length_map,List.length_drop];omega)]
theorem jhc (u v:jk) (n:List UInt8) (t:T):km (km (u.map bc) [[sv n,sv t.name,j6 t.args]]) (v.map bc)=(u++(n,t)::v).map bc:=by
 rw [List.map_append];show (u.map bc++[_])++v.map bc=u.map bc++_::v.map bc;rw [List.append_assoc];rfl
theorem jhe (u:jk) (n:List UInt8) (t:T):(km (u.map bc) [[sv n,sv t.name,j6 t.args]]).length=u.length+1:=by
 simp [km]
theorem jqs (u:jk) (hl:u.length<=1000000) (n:List UInt8) (t:T) (ht:Tz t):jmG (sv n) (tm t) (u.map bc)=some (.top,[sbs (Jn u n t)]):=by
 have e1:=QH t ht;have key:=upto (P:=λi=>(∀j,(h:j < i)-> ∀h':j < u.length,kQ u[j].1 n=true)->Yw (sv n) (vi i) (sv t.name) (j6 t.args) (u.map bc) []=some (.top,[sbs (Jo u n t)])) (n:=u.length) ?_ ?_ 0 (Nat.zero_le _) (λj h=>absurd h (Nat.not_lt_zero _))
 ·rw [jtJ,Jn];by_cases h:t.name=n
  ·rw [if_pos h];simp only [jf,h]
  ·rw [if_neg h];have e:Yw (sv n) (vi 0) (sv t.name) (j6 t.args) (u.map bc) []=some (.top,[sbs (Jo u n t)]):=key;simp only [jf,h,e]
 ·intro hall;rw [QQ n t u u.length (Nat.le_refl _) hall (Or.inr rfl)];obtain ⟨k1,k2,k3,k4,k5,k6,k7,k8,k9⟩:=jhd u hl u.length (Nat.le_refl _);have m1:=jhc (u.take u.length) (u.drop u.length) n t;have m2:=jhe (u.take u.length) n t;rw [jeO];simp only [jf,J3,k1,k2,k3,k4,k5,k6,k7,qE,Nat.sub_zero,Nat.zero_add,e1];generalize hB:kJ _ _ _=B;have hB':B=some (.agg [sv n,sv t.name,j6 t.args]):=by rw [<-hB];kernel_rfl
  rw [hB'];simp only [jf,k3,k8,k9,m1,m2]
 ·intro i hi ih hall;have hlt:(i:Int) < ((u.length:Nat):Int):=by omega
  have h5:=jz hi (by show u.length<=9223372036854775807;omega)
  have x1:KE u.length (vi ((i:Nat):Int))=some i:=ze hi;have x2:=jgZ hi;cases hs:kQ u[i].1 n
  ·rw [QQ n t u i (by omega) hall (Or.inl ⟨hi,hs⟩)];obtain ⟨k1,k2,k3,k4,k5,k6,k7,k8,k9⟩:=jhd u hl i (by omega);have m1:=jhc (u.take i) (u.drop i) n t;have m2:=jhe (u.take i) n t;rw [jeO];simp only [jf,hlt,x1,x2,hs,J3,k1,k2,k3,k4,k5,k6,k7,qE,Nat.sub_zero,Nat.zero_add,e1];generalize hB:kJ _ _ _=B;have hB':B=some (.agg [sv n,sv t.name,j6 t.args]):=by rw [<-hB];kernel_rfl
   rw [hB'];simp only [jf,k3,k8,k9,m1,m2]
  ·have ih:=ih λj hj hj'=>by
    by_cases h:j=i
    ·subst h;exact hs
    ·exact hall j (by omega) hj'
   rw [jeO];simp only [jf,hlt,x1,x2,hs,h5,ih]
theorem jov (s:jk) (n:List UInt8) (t:T):(Jn s n t).length<=s.length+1:=by
 unfold Jn;split
 ·omega
 ·unfold Jo;rw [List.length_append,List.length_cons];have:=List.takeWhile_append_dropWhile (p:=λp:List UInt8 × T=>kQ p.1 n) (l:=s);have:=congrArg List.length this;rw [List.length_append] at this;omega
theorem jg5 (m:jk) (hm:∀q∈m,Tz q.2) (hl:m.length<=1000000):G 23 [sbs m]=some (sb (jR m),[]):=by
 have key:=upto (P:=λi=>∀s:jk,s.length<=i->jjs (sbs m) (vi i) [] (s.map bc)=some (sb ((m.drop i).foldl (λs p=>Jn s p.1 p.2) s),[])) (n:=m.length) ?_ ?_ 0 (Nat.zero_le _) [] (Nat.le_refl _)
 ·rw [g23];exact key
 ·intro s _;rw [jri,List.drop_length];simp only [jf];rfl
 ·intro i hi ih s hs;have hlt:(i:Int) < ((m.length:Nat):Int):=by omega
  have h5:=jz hi (by show m.length<=9223372036854775807;omega)
  have e1:=jqs s (by omega) m[i].1 m[i].2 (hm _ (List.getElem_mem _));have:=jov s m[i].1 m[i].2;have ih:=ih (Jn s m[i].1 m[i].2) (by omega);rw [jri,jl hi,List.foldl_cons];simp only [jf,hlt,jb hi,zw,kS,Yi,e1,h5,ih]
abbrev pln (p:List Nat):A:= .sl 1 (p.map λn=>[vi (n:Nat)])
abbrev plc (p:List Nat):List A:=[pln p]
mutual
theorem jlQ:∀t:T,(jha t).length=nodes t
 | .mk n us=>by
  rw [jha,nodes,List.length_append,jdS us 0];simp;omega
theorem jdS:∀(us:List T) (i:Nat),(jco i us).length=jA us
 | [],i=>rfl
 | t::ts,i=>by
  rw [jco,jA,List.length_append,List.length_map,jlQ t,jdS ts (i+1)]
end
def okP:List Nat->T->Prop
 | [],_=>True
 | i::p,t=>i < t.args.length/\okP p (t.args.getD i (.mk [] []))
theorem jj2 {ts:List T} {i:Nat} (h:i < ts.length):ts.getD i (.mk [] [])=ts[i]:=by rw [List.getD_eq_getElem?_getD,List.getElem?_eq_getElem h];rfl
mutual
theorem jos:∀(t:T),∀p∈jha t,okP p t/\p.length<=nodes t
 | .mk n us=>λp hp=>by
  rw [jha,List.mem_append] at hp;rcases hp with hp|hp
  ·obtain ⟨j,q,rfl,h1,h2,h3⟩:=jg9 us 0 p hp;refine ⟨?_,?_⟩
   ·show (0+j) < us.length/\okP q (us.getD (0+j) _);rw [Nat.zero_add];exact ⟨h1,h2⟩
   ·rw [List.length_cons,nodes];omega
  ·rw [List.mem_singleton] at hp;subst hp;exact ⟨trivial,by simp⟩
theorem jg9:∀(us:List T) (i:Nat),∀p∈jco i us,∃j q,p=(i+j)::q/\j < us.length/\okP q (us.getD j (.mk [] []))/\q.length<=jA us
 | [],i,p,hp=>by rw [jco] at hp;cases hp
 | t::ts,i,p,hp=>by
  rw [jco,List.mem_append] at hp;rcases hp with hp|hp
  ·obtain ⟨q,hq,rfl⟩:=List.mem_map.1 hp;obtain ⟨h1,h2⟩:=jos t q hq;exact ⟨0,q,rfl,by simp,h1,by rw [jA];omega⟩
  ·obtain ⟨j,q,rfl,h1,h2,h3⟩:=jg9 ts (i+1) p hp;exact ⟨j+1,q,by rw [show i+1+j=i+(j+1) by omega],by simpa using h1,by simpa using h2,by rw [jA];omega⟩
end
theorem jkv {q:T->Prop} (hq:∀t,q t-> ∀u∈t.args,q u):∀ {p:List Nat} {t:T},okP p t->q t->q (atT p t)
 | [],_,_,h=>h
 | i::p,t,hp,h=>by
  obtain ⟨h1,h2⟩:=hp;refine jkv (p:=p) hq h2 ?_;rw [jj2 h1];exact hq t h _ (List.getElem_mem _)
theorem jhV {n:List UInt8} (h:ju n=true):n.length<=4:=by
 cases n with
 | nil=>simp
 | cons c r=>
  simp only [ju,Bool.and_eq_true,decide_eq_true_eq] at h;rw [List.length_cons];omega
theorem jmg {n:List UInt8} (h:zQ n=true):n.length<=6:=by
 cases n with
 | nil=>simp
 | cons c r=>
  simp only [zQ,Bool.and_eq_true,decide_eq_true_eq] at h;rw [List.length_cons];omega
theorem Yg:∀t:T,zt t=true->tsz t<=10 * nodes t:=by
 refine T.ind λt ih hk=> ?_;have hL:∀us:List T,(∀u∈us,tsz u<=10 * nodes u)->zu us<=10 * jA us:=by
  intro us;induction us with
  | nil=>intro _;simp [zu]
  | cons u us ih2=>
   intro h;have:=h u (by simp);have:=ih2 λw hw=>h w (by simp [hw]);simp only [zu,jA];omega
 have h1:=hL t.args λu hu=>ih u hu (zz hk u hu);rw [jY,jN];rw [zS] at hk;cases hv:ju t.name with
 | true=>
  rw [hv,if_pos rfl] at hk;have:=jhV hv;rw [List.isEmpty_iff.1 hk] at h1 ⊢;simp only [List.length_nil,zu] at h1 ⊢;omega
 | false=>
  rw [hv,if_neg Bool.false_ne_true,Bool.and_eq_true,Bool.and_eq_true,decide_eq_true_eq] at hk;have:=jmg hk.1;omega
theorem jmd {u:jk} {Z:Nat} (hZ:1<=Z) (hu:∀q∈u,nodes q.2<=Z):∀t:T,nodes (sub u t)<=nodes t * Z:=by
 refine T.ind λt ih=> ?_;cases hv:ju t.name with
 | true=>
  have h1:=jdE t;have h2:1 * Z<=nodes t * Z:=Nat.mul_le_mul_right Z h1;rw [yG hv,JK];cases hl:look u t.name with
  | none=>show 1+0<=_;omega
  | some r=>have:nodes r<=Z:=hu _ (ye hl);show nodes r<=_;omega
 | false=>
  have hL:∀us:List T,(∀v∈us,nodes (sub u v)<=nodes v * Z)->jA (us.map (sub u))<=jA us * Z:=by
   intro us;induction us with
   | nil=>intro _;simp [jA]
   | cons v us ih2=>
    intro h;have:=h v (by simp);have:=ih2 λw hw=>h w (by simp [hw]);simp only [List.map_cons,jA,Nat.add_mul];omega
  have:=hL t.args ih;rw [jN,Zj hv,jN t,Nat.add_mul];omega
theorem QE {t u:T} (h:u∈t.args):nodes u < nodes t:=by
 have:=Ye h;have:=jN t;omega
def Vs (t:T):Prop:=zt t=true/\nodes t<=30
theorem Vs.args {t:T} (h:Vs t):∀u∈t.args,Vs u:=λu hu=>⟨zz h.1 u hu,by have:=QE hu;have:=h.2;omega⟩
theorem Vs.tz {t:T} (h:Vs t):Tz t:=by
 have:=Yg t h.1;have:=h.2;unfold Tz;omega
def RS (rs:List T):Prop:=rs.length<=10/\ ∀r∈rs,r.args.length=2/\Vs (J0 r)/\Vs (J5 r)
theorem RS.ok {rs:List T} (h:RS rs):jpf rs:=λr hr=>⟨(h.2 r hr).2.1.1,(h.2 r hr).2.2.1⟩
def EX (root:Bool) (t:T):Prop:=(nodes t<=31/\Tz t)/\(∀u∈t.args,Vs u)/\(root=true->Vs t)
def jx2 (t:T) (o:Option T):Option Out:=match o with|some u=>some (.tup [tm u,vb true],[])|none=>some (.tup [tm t,vb false],[])
theorem EX.at {root:Bool} {t:T} (h:EX root t) {p:List Nat} (hp:okP p t) (hne:¬(p = []/\root=false)):Vs (atT p t):=by
 obtain ⟨_,h1,h2⟩:=h;cases p with
 | nil=>
  cases root
  ·exact absurd ⟨rfl,rfl⟩ hne
  ·exact h2 rfl
 | cons i p=>
  obtain ⟨a,b⟩:=hp;refine jkv (p:=p) (q:=Vs) (λ_ h=>h.args) b ?_;rw [jj2 a];exact h1 _ (List.getElem_mem _)
def jsM (o:Option T):Option Out:=match o with|some u=>some (.tup [tm u,vb true],[])|none=>some (.tup [.agg [sv [],.sl 2 []],vb false],[])
def Srt (l:List (List UInt8)):Prop:=l.Pairwise λx y=>x < y
theorem Yn (x y:List UInt8):kQ x y=decide (x < y):=Go.Proofs.bytesLess_eq x y
theorem jsF {x y:List UInt8} (h1:¬x < y) (h2:x≠y):y < x:=by
 have h3:y<=x:=List.not_lt.1 h1;exact Std.lt_of_le_of_ne h3 (Ne.symm h2)
mutual
def juU:T->List (List UInt8)
 | .mk n us=>(if ju n then [] else [n])++joR us
def joR:List T->List (List UInt8)
 | []=>[]
 | t::ts=>juU t++joR ts
end
theorem ji8 {n:List UInt8} (h:ju n=true):zQ n=false:=by
 cases n with
 | nil=>rfl
 | cons c r=>
  simp only [ju,Bool.and_eq_true,upc,Kz,decide_eq_true_eq] at h;have:ZK c=false:=by unfold ZK Kz;rw [Bool.and_eq_false_iff];left;rw [decide_eq_false_iff_not];omega
  simp [zQ,this]
def jwq (l vs:List (List UInt8)) (k:Nat) (r:List (List UInt8)):Prop:=jvr l vs k r/\(l.Nodup->r.Nodup)
def jx9 (r:List (List UInt8)):Ord':=⟨r,List.replicate r.length 1,1⟩
theorem jnh {ts:List T} {t:T} (h:t∈ts):qn t<=KS ts:=by
 induction ts with
 | nil=>cases h
 | cons u us ih=>
  simp only [KS];rcases List.mem_cons.1 h with h|h
  ·subst h;omega
  ·have:=ih h;omega
def EX' (root:Bool) (t:T):Prop:=EX root t/\(root=false->t.name = [61]/\t.args.length=2)
theorem jku {us:List T} (h:∀u∈us,zt u=true):zu us<=10 * jA us:=by
 induction us with
 | nil=>simp [zu]
 | cons u us ih=>
  have:=Yg u (h u (by simp));have:=ih λw hw=>h w (by simp [hw]);simp only [zu,jA];omega
def jx1 (o:Option (T × Nat)):Option Out:=match o with|some r=>some (.tup [tm r.1,vi (r.2:Nat),vb true],[])|none=>some (.tup [.agg [sv [],.sl 2 []],vi 0,vb false],[])
structure Law3 {α:Type} (c:α->α->Int):Prop where
 zero:∀a b,c a b=0↔a=b
 flip:∀a b,c b a = -(c a b)
 trans:∀a b d,c a b < 0->c b d < 0->c a d < 0
section
variable {α:Type} {c:α->α->Int}
def Asc (c:α->α->Int) (l:List α):Prop:=l.Pairwise λa b=>c a b < 0
theorem jjO (h:Law3 c):∀ {l m:List α},Asc c l->Asc c m->(∀x,x∈l↔x∈m)->l=m
 | [],[],_,_,_=>rfl
 | [],b::m,_,_,hx=>absurd ((hx b).2 (by simp)) (by simp)
 | a::l,[],_,_,hx=>absurd ((hx a).1 (by simp)) (by simp)
 | a::l,b::m,h1,h2,hx=>by
  obtain ⟨g1,g2⟩:=List.pairwise_cons.1 h1;obtain ⟨k1,k2⟩:=List.pairwise_cons.1 h2;have hab:a=b:=by
   rcases List.mem_cons.1 ((hx a).1 (by simp)) with e|e
   ·exact e
   rcases List.mem_cons.1 ((hx b).2 (by simp)) with e'|e'
   ·exact e'.symm
   ·have q1:=k1 a e;have q2:=g1 b e';have q3:=h.flip a b;omega
  subst hab;have:l=m:=jjO h g2 k2 λx=>by
   constructor
   ·intro hxl;rcases List.mem_cons.1 ((hx x).1 (by simp [hxl])) with e|e
    ·have:=g1 x hxl;rw [e,(h.zero a a).2 rfl] at this;omega
    ·exact e
   ·intro hxm;rcases List.mem_cons.1 ((hx x).2 (by simp [hxm])) with e|e
    ·have:=k1 x hxm;rw [e,(h.zero a a).2 rfl] at this;omega
    ·exact e
  rw [this]
def YN (eq:α->α->Bool):List α->List α
 | []=>[]
 | a::l=>(match YN eq l with | []=>[a]|b::m=>if eq a b then b::m else a::b::m)
theorem jdl (h:Law3 c) {eq:α->α->Bool} (he:∀a b,eq a b=true↔a=b):∀ {l:List α},l.Pairwise (λa b=>¬c b a < 0)->Asc c (YN eq l)/\ ∀x,x∈YN eq l↔x∈l
 | [],_=>⟨List.Pairwise.nil,λx=>Iff.rfl⟩
 | a::l,hp=>by
  obtain ⟨g1,g2⟩:=List.pairwise_cons.1 hp;obtain ⟨k1,k2⟩:=jdl h he g2;rw [YN];cases hc:YN eq l with
  | nil=>
   rw [hc] at k2;refine ⟨by unfold Asc;simp,λx=> ?_⟩;show x ∈ [a]↔_;constructor
   ·intro hx;simp only [List.mem_singleton] at hx;simp [hx]
   ·intro hx;rcases List.mem_cons.1 hx with e|e
    ·simp [e]
    ·exact absurd ((k2 x).2 e) (by simp)
  | cons b m=>
   rw [hc] at k1 k2;have hbl:b∈l:=(k2 b).1 (by simp);by_cases hab:a=b
   ·show Asc c (if eq a b then b::m else a::b::m)/\_;have he':=(he a b).2 hab;have e2:(if eq a b then b::m else a::b::m)=b::m:=if_pos he';refine ⟨by rw [e2];exact k1,λx=> ?_⟩;show x∈(if eq a b then b::m else a::b::m)↔_;rw [e2,k2,List.mem_cons];constructor
    ·exact Or.inr
    ·rintro (e|e)
     ·rw [e,hab];exact hbl
     ·exact e
   ·have he':¬eq a b=true:=λe=>hab ((he a b).1 e);have e2:(if eq a b then b::m else a::b::m)=a::b::m:=if_neg he';have hlt:c a b < 0:=by
     have q1:=g1 b hbl;have q2:=h.flip a b;have q3:c a b≠0:=λe=>hab ((h.zero a b).1 e);omega
    refine ⟨?_,λx=> ?_⟩
    ·show Asc c (if eq a b then b::m else a::b::m);rw [e2];refine List.pairwise_cons.2 ⟨λx hx=> ?_,k1⟩;rcases List.mem_cons.1 hx with e|e
     ·rw [e];exact hlt
     ·exact h.trans a b x hlt ((List.pairwise_cons.1 k1).1 x e)
    ·show x∈(if eq a b then b::m else a::b::m)↔_;rw [e2,List.mem_cons,k2,List.mem_cons]
theorem ZZ {p:α->Bool} :∀ {l:List α} {a:α},a∈l.takeWhile p->p a=true
 | x::l,a,h=>by
  by_cases hx:p x=true
  ·rw [List.takeWhile_cons_of_pos hx] at h;rcases List.mem_cons.1 h with e|e
   ·rw [e];exact hx
   ·exact ZZ e
  ·rw [List.takeWhile_cons_of_neg hx] at h;cases h
def qo (c:α->α->Int) (l:List α) (x:α):List α:=if (l.dropWhile λa=>decide (c a x < 0)).head?.any (λb=>decide (c b x=0)) then l else l.takeWhile (λa=>decide (c a x < 0))++x::l.dropWhile λa=>decide (c a x < 0)
theorem YZ (h:Law3 c) {l:List α} (hl:Asc c l) (x:α):Asc c (qo c l x)/\ ∀y,y∈qo c l x↔y∈l\/y=x:=by
 have e:=List.takeWhile_append_dropWhile (p:=λa=>decide (c a x < 0)) (l:=l);have ht:∀a∈l.takeWhile (λa=>decide (c a x < 0)),c a x < 0:=λa ha=>of_decide_eq_true (ZZ (p:=λa=>decide (c a x < 0)) ha);unfold qo;generalize l.takeWhile (λa=>decide (c a x < 0))=t at *;cases hd:l.dropWhile (λa=>decide (c a x < 0)) with
 | nil=>
  rw [hd,List.append_nil] at e;subst e;rw [if_neg (by simp)];refine ⟨?_,λy=>by simp⟩;refine List.pairwise_append.2 ⟨hl,by simp,λa ha b hb=> ?_⟩;simp only [List.mem_singleton] at hb;rw [hb];exact ht a ha
 | cons b m=>
  have hb:¬c b x < 0:=by
   intro hb;have:=List.head?_dropWhile_not (p:=λa=>decide (c a x < 0)) l;rw [hd] at this;simp [hb] at this
  rw [hd] at e;by_cases h0:c b x=0
  ·rw [if_pos (by simp [h0])];refine ⟨hl,λy=>⟨Or.inl,λhy=> ?_⟩⟩;rcases hy with hy|hy
   ·exact hy
   ·rw [hy,<-(h.zero b x).1 h0,<-e];simp
  ·rw [if_neg (by simp [h0])];rw [<-e] at hl;obtain ⟨p1,p2,p3⟩:=List.pairwise_append.1 hl;have hxb:c x b < 0:=by have:=h.flip b x;omega
   refine ⟨List.pairwise_append.2 ⟨p1,List.pairwise_cons.2 ⟨λy hy=> ?_,p2⟩,λa ha y hy=> ?_⟩,λy=> ?_⟩
   ·rcases List.mem_cons.1 hy with e'|e'
    ·rw [e'];exact hxb
    ·exact h.trans x b y hxb ((List.pairwise_cons.1 p2).1 y e')
   ·rcases List.mem_cons.1 hy with e'|e'
    ·rw [e'];exact ht a ha
    ·exact p3 a ha y e'
   ·rw [<-e];simp only [List.mem_append,List.mem_cons];constructor
    ·rintro (h|h|h|h)
     ·exact Or.inl (Or.inl h)
     ·exact Or.inr h
     ·exact Or.inl (Or.inr (Or.inl h))
     ·exact Or.inl (Or.inr (Or.inr h))
    ·rintro ((h|h|h)|h)
     ·exact Or.inl h
     ·exact Or.inr (Or.inr (Or.inl h))
     ·exact Or.inr (Or.inr (Or.inr h))
     ·exact Or.inr (Or.inl h)
def kz (c:α->α->Int) (l:List α):List α:=l.foldl (qo c) []
theorem Zz (h:Law3 c) (l:List α):Asc c (kz c l)/\ ∀y,y∈kz c l↔y∈l:=by
 have key:∀(l m:List α),Asc c m->Asc c (l.foldl (qo c) m)/\ ∀y,y∈l.foldl (qo c) m↔y∈m\/y∈l:=by
  intro l;induction l with
  | nil=>intro m hm;exact ⟨hm,λy=>by simp⟩
  | cons x l ih=>
   intro m hm;obtain ⟨g1,g2⟩:=YZ h hm x;obtain ⟨k1,k2⟩:=ih _ g1;refine ⟨k1,λy=> ?_⟩;rw [List.foldl_cons,k2,g2,List.mem_cons,or_assoc]
 obtain ⟨g1,g2⟩:=key l [] List.Pairwise.nil;exact ⟨g1,λy=>by rw [kz,g2];simp⟩
theorem jp6 (h:Law3 c) {eq:α->α->Bool} (he:∀a b,eq a b=true↔a=b) {l s:List α} (hs:s.Pairwise λa b=>¬c b a < 0) (hm:∀x,x∈s↔x∈l):YN eq s=kz c l:=by
 obtain ⟨g1,g2⟩:=jdl h he hs;obtain ⟨k1,k2⟩:=Zz h l;exact jjO h g1 k1 λx=>by rw [g2,k2,hm]
end
theorem jsB {α β γ:Type} {f:γ->α} {g:γ->β} {c:α->α->Int} {d:β->β->Int} (hc:Law3 c) (hd:Law3 d) (hi:∀x y,f x=f y->g x=g y->x=y):Law3 λx y:γ=>if c (f x) (f y)≠0 then c (f x) (f y) else d (g x) (g y):=by
 refine ⟨λa b=> ?_,λa b=> ?_,λa b e=> ?_⟩
 ·show (if c (f a) (f b)≠0 then c (f a) (f b) else d (g a) (g b))=0↔_;by_cases h:c (f a) (f b)=0
  ·rw [if_neg (λh'=>h' h),hd.zero];exact ⟨λh2=>hi a b ((hc.zero _ _).1 h) h2,λh2=>by rw [h2]⟩
  ·rw [if_pos h];exact ⟨λh2=>absurd h2 h,λh2=>by rw [h2] at h;exact absurd ((hc.zero _ _).2 rfl) h⟩
 ·show (if c (f b) (f a)≠0 then c (f b) (f a) else d (g b) (g a)) = -(if c (f a) (f b)≠0 then c (f a) (f b) else d (g a) (g b));rw [hc.flip (f a) (f b),hd.flip (g a) (g b)];by_cases h:c (f a) (f b)=0
  ·rw [if_neg (by omega),if_neg (by omega)]
  ·rw [if_pos (by omega),if_pos (by omega)]
 ·show (if c (f a) (f b)≠0 then c (f a) (f b) else d (g a) (g b)) < 0->(if c (f b) (f e)≠0 then c (f b) (f e) else d (g b) (g e)) < 0->(if c (f a) (f e)≠0 then c (f a) (f e) else d (g a) (g e)) < 0;by_cases h1:c (f a) (f b)=0
  ·have e1:=(hc.zero _ _).1 h1;rw [if_neg (λh'=>h' h1),e1];by_cases h2:c (f b) (f e)=0
   ·rw [if_neg (λh'=>h' h2),if_neg (λh'=>h' h2)];exact hd.trans _ _ _
   ·rw [if_pos h2,if_pos h2];exact λ_ h=>h
  ·rw [if_pos h1];by_cases h2:c (f b) (f e)=0
   ·have e2:=(hc.zero _ _).1 h2;rw [if_neg (λh'=>h' h2),<-e2,if_pos h1];exact λh _=>h
   ·rw [if_pos h2];intro h3 h4;have:=hc.trans _ _ _ h3 h4;rw [if_pos (by omega)];exact this
def j4 (x y:List UInt8):Int:=if kQ x y then -1 else if x=y then 0 else 1
theorem qd:Law3 j4:=by
 have irr:=Jz;have asy:∀x y,kQ x y=true->kQ y x=true->False:=λx y h1 h2=>by
  rw [Yn,decide_eq_true_eq] at h1 h2;exact absurd (List.lt_trans h1 h2) (List.lt_irrefl _)
 have tot:∀x y,x=y\/kQ x y=true\/kQ y x=true:=λx y=>by
  rw [Yn,Yn,decide_eq_true_eq,decide_eq_true_eq];rcases Classical.em (x < y) with h|h
  ·exact Or.inr (Or.inl h)
  rcases Classical.em (y < x) with h'|h'
  ·exact Or.inr (Or.inr h')
  ·exact Or.inl (List.le_antisymm (List.not_lt.1 h') (List.not_lt.1 h))
 have tr:∀x y z,kQ x y=true->kQ y z=true->kQ x z=true:=λx y z h1 h2=>by
  rw [Yn,decide_eq_true_eq] at *;exact List.lt_trans h1 h2
 have neg:∀x y,j4 x y < 0↔kQ x y=true:=λx y=>by
  unfold j4;cases h:kQ x y with
  | true=>simp
  | false=>
   rw [if_neg Bool.false_ne_true];split<;>simp
 refine ⟨λa b=> ?_,λa b=> ?_,λa b d h1 h2=>(neg _ _).2 (tr _ _ _ ((neg _ _).1 h1) ((neg _ _).1 h2))⟩
 ·unfold j4;cases h:kQ a b with
  | true=>rw [if_pos rfl];exact ⟨λh'=>by omega,λe=>by rw [e,irr] at h;cases h⟩
  | false=>
   rw [if_neg Bool.false_ne_true];by_cases e:a=b
   ·rw [if_pos e];exact ⟨λ_=>e,λ_=>rfl⟩
   ·rw [if_neg e];exact ⟨λh'=>by omega,λh'=>absurd h' e⟩
 ·unfold j4;rcases tot a b with e|e|e
  ·subst e;rw [irr,if_neg Bool.false_ne_true,if_pos rfl];rfl
  ·have h2:kQ b a=false:=by
    cases h:kQ b a with
    | false=>rfl
    | true=>exact (asy _ _ e h).elim
   have hne:¬b=a:=λh=>by rw [h,irr] at e;cases e
   rw [e,h2,if_neg Bool.false_ne_true,if_neg hne,if_pos rfl];rfl
  ·have h2:kQ a b=false:=by
    cases h:kQ a b with
    | false=>rfl
    | true=>exact (asy _ _ e h).elim
   have hne:¬a=b:=λh=>by rw [h,irr] at e;cases e
   rw [e,h2,if_neg Bool.false_ne_true,if_neg hne,if_pos rfl]
def jV (x y:Nat):Int:=if x < y then -1 else if y < x then 1 else 0
theorem KP:Law3 jV:=by
 refine ⟨λa b=> ?_,λa b=> ?_,λa b d=> ?_⟩<;>unfold jV
 ·split
  ·omega
  ·split<;>omega
 ·split<;>split<;>(try split)<;>omega
 ·intro h1 h2;by_cases h:a < b
  ·by_cases h3:b < d
   ·rw [if_pos (by omega)];omega
   ·rw [if_neg h3] at h2;split at h2<;>omega
  ·rw [if_neg h] at h1;split at h1<;>omega
def vF (n:List UInt8):Nat:=if ju n then 0 else 1
abbrev Key:=Nat × (List UInt8 × Nat)
def cK (x y:Key):Int:=if jV x.1 y.1≠0 then jV x.1 y.1 else if j4 x.2.1 y.2.1≠0 then j4 x.2.1 y.2.1 else jV x.2.2 y.2.2
theorem J9:Law3 cK:=by
 have h2:Law3 λx y:List UInt8 × Nat=>if j4 x.1 y.1≠0 then j4 x.1 y.1 else jV x.2 y.2:=jsB (f:=Prod.fst) (g:=Prod.snd) qd KP λx y h1 h2=>Prod.ext h1 h2;exact jsB (f:=Prod.fst) (g:=Prod.snd) KP h2 λx y h1 h2=>Prod.ext h1 h2
def ya (t:T):Key:=(vF t.name,(t.name,t.args.length))
mutual
def zc (a b:T):Int:=
 match a with
 | .mk n us=>if cK (ya (.mk n us)) (ya b)≠0 then cK (ya (.mk n us)) (ya b) else kE us b.args
termination_by structural a
def kE (xs bs:List T):Int:=
 match xs with
 | []=>0
 | a::xs=>(match bs with | []=>0|b::bs=>if zc a b≠0 then zc a b else kE xs bs)
termination_by structural xs
end
theorem Kb (a b:T):zc a b=if cK (ya a) (ya b)≠0 then cK (ya a) (ya b) else kE a.args b.args:=by cases a;rfl
theorem jbX {a b:T} (h:ya a=ya b):a.name=b.name/\a.args.length=b.args.length:=by
 unfold ya at h;simp only [Prod.mk.injEq] at h;exact h.2
theorem jtl {a b:T} (h1:a.name=b.name) (h2:a.args=b.args):a=b:=by
 cases a;cases b;simp only [T.name,T.args] at h1 h2;rw [h1,h2]
theorem jr2:∀ {xs bs:List T},(∀u∈xs,∀v,zc u v=0↔u=v)->xs.length=bs.length->(kE xs bs=0↔xs=bs)
 | [],[],_,_=>by simp [kE]
 | [],_::_,_,h=>by cases h
 | _::_,[],_,h=>by cases h
 | a::xs,b::bs,h,hl=>by
  rw [kE];have ih:=jr2 (xs:=xs) (bs:=bs) (λu hu=>h u (by simp [hu])) (Nat.succ.inj hl);by_cases h0:zc a b=0
  ·rw [if_neg (λh'=>h' h0),ih,(h a (by simp) b).1 h0];simp
  ·rw [if_pos h0];exact ⟨λh'=>absurd h' h0,λe=>by rw [List.cons.injEq] at e;exact (h a (by simp) b).2 e.1⟩
theorem jq8:∀ {xs bs:List T},(∀u∈xs,∀v,zc v u = -(zc u v))->xs.length=bs.length->kE bs xs = -(kE xs bs)
 | [],[],_,_=>by simp [kE]
 | [],_::_,_,h=>by cases h
 | _::_,[],_,h=>by cases h
 | a::xs,b::bs,h,hl=>by
  rw [kE,kE,h a (by simp) b,jq8 (xs:=xs) (bs:=bs) (λu hu=>h u (by simp [hu])) (Nat.succ.inj hl)];by_cases h0:zc a b=0
  ·rw [if_neg (by omega),if_neg (by omega)]
  ·rw [if_pos (by omega),if_pos (by omega)]
theorem joT (z:∀u v:T,zc u v=0↔u=v):∀ {xs bs ds:List T},(∀u∈xs,∀v w,zc u v < 0->zc v w < 0->zc u w < 0)->xs.length=bs.length->bs.length=ds.length->kE xs bs < 0->kE bs ds < 0->kE xs ds < 0
 | [],_,_,_,_,_,h1,_=>by simp [kE] at h1
 | a::xs,[],_,_,h,_,_,_=>by cases h
 | a::xs,b::bs,[],_,_,h,_,_=>by cases h
 | a::xs,b::bs,d::ds,h,hl,hl2,h1,h2=>by
  rw [kE] at h1 h2 ⊢;by_cases c1:zc a b=0
  ·have e1:=(z a b).1 c1;rw [if_neg (λh'=>h' c1)] at h1;rw [e1];by_cases c2:zc b d=0
   ·rw [if_neg (λh'=>h' c2)] at h2;rw [if_neg (λh'=>h' c2)];exact joT z (λu hu=>h u (by simp [hu])) (Nat.succ.inj hl) (Nat.succ.inj hl2) h1 h2
   ·rw [if_pos c2] at h2;rw [if_pos c2];exact h2
  ·rw [if_pos c1] at h1;by_cases c2:zc b d=0
   ·rw [<-(z b d).1 c2,if_pos c1];exact h1
   ·rw [if_pos c2] at h2;have:=h a (by simp) b d h1 h2;rw [if_pos (by omega)];exact this
theorem jnb:Law3 zc:=by
 have z:∀a b:T,zc a b=0↔a=b:=by
  refine T.ind λa ih b=> ?_;rw [Kb];by_cases h:cK (ya a) (ya b)=0
  ·have hk:=(J9.zero _ _).1 h;obtain ⟨h1,h2⟩:=jbX hk;rw [if_neg (λh'=>h' h),jr2 ih h2];exact ⟨λe=>jtl h1 e,λe=>by rw [e]⟩
  ·rw [if_pos h];exact ⟨λh'=>absurd h' h,λe=>by rw [e] at h;exact absurd ((J9.zero _ _).2 rfl) h⟩
 refine ⟨z,?_,?_⟩
 ·refine T.ind λa ih b=> ?_;rw [Kb,Kb a b,J9.flip (ya a) (ya b)];by_cases h:cK (ya a) (ya b)=0
  ·obtain ⟨_,h2⟩:=jbX ((J9.zero _ _).1 h);rw [if_neg (by omega),if_neg (by omega),jq8 ih h2]
  ·rw [if_pos (by omega),if_pos (by omega)]
 ·refine T.ind λa ih b d h1 h2=> ?_;rw [Kb] at h1 h2 ⊢;by_cases c1:cK (ya a) (ya b)=0
  ·have e1:=(J9.zero _ _).1 c1;rw [if_neg (λh'=>h' c1)] at h1;rw [e1];by_cases c2:cK (ya b) (ya d)=0
   ·have e2:=(J9.zero _ _).1 c2;rw [if_neg (λh'=>h' c2)] at h2;rw [if_neg (λh'=>h' c2)];exact joT z ih (jbX e1).2 (jbX e2).2 h1 h2
   ·rw [if_pos c2] at h2;rw [if_pos c2];exact h2
  ·rw [if_pos c1] at h1;by_cases c2:cK (ya b) (ya d)=0
   ·rw [<-(J9.zero _ _).1 c2,if_pos c1];exact h1
   ·rw [if_pos c2] at h2;have:=J9.trans _ _ _ h1 h2;rw [if_pos (by omega)];exact this
end Go.Proofs.YtdbgbieenhcldaaGreat
