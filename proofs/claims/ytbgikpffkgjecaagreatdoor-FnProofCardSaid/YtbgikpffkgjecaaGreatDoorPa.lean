/- Pa -/
import Derived.Test.YtbgikpffkgjecaaGreatDoorKt
import Derived.Test.YtbgikpffkgjecaaGreatDoorPq
import Derived.Test.YtbgikpffkgjecaaGreatDoorEd
import Derived.ChangeSame
namespace Go.Proofs.YtbgikpffkgjecaaGreatDoor
open Go Go.RowKit Go.Proofs.YtbgikpffkgjecaaGreatDoor.Abs
set_option linter.unusedSimpArgs false
set_option linter.unusedVariables false
abbrev ci (n:Int):List A:=[vi n]
abbrev cs (s:List UInt8):List A:=[sv s]
abbrev ints (l:List Int):A:= .sl 1 (l.map ci)
abbrev strs (l:List (List UInt8)):A:= .sl 1 (l.map cs)
section
theorem jex {α:Type} (x y:α):brn true x y=x:=rfl
theorem Yt {α:Type} (x y:α):brn false x y=y:=rfl
theorem jCa {α:Type} (b:Bool) (x y:α):brn b x y=if b=true then x else y:=rfl
theorem jDB:(-1:Int) < 0:=by decide
theorem YT (b:Bool):JB (vb b)=some b:=rfl
theorem jju (b:Bool) (x y:A):KY (vb b) x y=some (if b=true then x else y):=rfl
theorem jAG (b w:Bool) (x:Option A):pG (vb b) w x=if b=w then x else some (.val undef):=rfl
theorem jqz (b w:Bool):Yb (vb b) w=some (decide (b=w)):=rfl
theorem jAF (w:Bool) (x:Option A):pG (.val undef) w x=some (.val undef):=rfl
theorem jqy (w:Bool):Yb (.val undef) w=some false:=rfl
theorem jAI (k:Nat) (xs:List (List A)):zn (.sl k xs)=some (vi xs.length):=rfl
theorem KZ (xs:List (List A)):zU xs=vi xs.length:=rfl
theorem jjE (xs:List (List A)):jm xs=xs.length:=rfl
theorem jb6 (l:List UInt8):jb5 (sv l)=some (vi l.length):=rfl
theorem jpq (a:A):fin false (a,[])=some a:=rfl
theorem jGo (b c:Bool):fin c (vb b,[])=some (vb b):=by cases c<;>rfl
theorem jGp (c:Bool) (n:Int):fin c (vi n,[])=some (vi n):=by cases c<;>rfl
theorem jDM (b:Bool):Jr .not (vb b)=some (vb (!b)):=rfl
theorem jeZ (b:Bool) (x y:Int):ju .lss b (vi x) (vi y)=some (vb (decide (x < y))):=rfl
theorem jAz (b:Bool) (x y:Int):ju .leq b (vi x) (vi y)=some (vb (decide (x<=y))):=rfl
theorem jb4 (b:Bool) (x y:Int):ju .gtr b (vi x) (vi y)=some (vb (decide (y < x))):=rfl
theorem jAy (b:Bool) (x y:Int):ju .geq b (vi x) (vi y)=some (vb (decide (y<=x))):=rfl
theorem jqt (b:Bool) (x y:Int):ju .eql b (vi x) (vi y)=some (vb (decide (x=y))):=rfl
theorem jAB (b:Bool) (x y:Int):ju .neq b (vi x) (vi y)=some (vb (!decide (x=y))):=rfl
theorem jwK (b:Bool) (x y:Int):ju .lss b (vy x) (vy y)=some (vb (decide (x < y))):=rfl
theorem jwJ (b:Bool) (x y:Int):ju .leq b (vy x) (vy y)=some (vb (decide (x<=y))):=rfl
theorem jwI (b:Bool) (x y:Int):ju .gtr b (vy x) (vy y)=some (vb (decide (y < x))):=rfl
theorem jwH (b:Bool) (x y:Int):ju .geq b (vy x) (vy y)=some (vb (decide (y<=x))):=rfl
theorem jwG (b:Bool) (x y:Int):ju .eql b (vy x) (vy y)=some (vb (decide (x=y))):=rfl
theorem jwL (b:Bool) (x y:Int):ju .neq b (vy x) (vy y)=some (vb (!decide (x=y))):=rfl
theorem jwM (x y:Bool):ju .eql true (vb x) (vb y)=some (vb (decide (x=y))):=rfl
theorem jwN (x y:Bool):ju .neq true (vb x) (vb y)=some (vb (!decide (x=y))):=rfl
theorem KX (b:Bool) (x y:Int):ju .add b (vi x) (vi y)=ck (x+y):=by cases b<;>rfl
theorem jqu (b:Bool) (x y:Int):ju .sub b (vi x) (vi y)=ck (x - y):=by cases b<;>rfl
theorem jAA (b:Bool) (x y:Int):ju .mul b (vi x) (vi y)=ck (x * y):=by cases b<;>rfl
theorem jE {n:Int} (h1: -9223372036854775808<=n) (h2:n<=9223372036854775807):ck n=some (vi n):=jg ⟨h1,h2⟩
theorem jaa (b:Bool) (x y:List UInt8):ju .add b (sv x) (sv y)=if x.length+y.length<=9223372036854775807 then some (sv (x++y)) else none:=by cases b<;>rfl
theorem jf3 (b:Bool) (x y:List UInt8):ju .eql b (sv x) (sv y)=some (vb (decide (x=y))):=rfl
theorem jwR (b:Bool) (x y:List UInt8):ju .neq b (sv x) (sv y)=some (vb (!decide (x=y))):=rfl
theorem jwQ (b:Bool) (x y:List UInt8):ju .lss b (sv x) (sv y)=some (vb (yX x y)):=rfl
theorem jAK (a:A) (l:List A):kN (.elt (a::l) 0)=some a:=rfl
theorem qV (cs:List A) (off n:Nat):qi (.elt cs off) n=some (.elt cs (off+n)):=rfl
theorem jti (off:Nat) (cs:List A):jjq off (.agg cs)=cs[off]? :=rfl
theorem jth (n:Nat) (ds:List A):jaO n (.agg ds)=if ds.length=n/\ds.all jI=true then some ds else none:=rfl
theorem jvZ (a:A) (l:List A):jb (a::l) 0=a:=rfl
theorem jx9 (a b:A) (l:List A):jb (a::b::l) 1=b:=rfl
theorem jya (a b c:A) (l:List A):jb (a::b::c::l) 2=c:=rfl
theorem jsz (a b c d:A) (l:List A):jb (a::b::c::d::l) 3=d:=rfl
theorem jtd (k:Nat) (xs:List (List A)):jI (.sl k xs)=true:=rfl
theorem jDE (cs:List A) (o:Nat):jI (.elt cs o)=true:=rfl
theorem jGM (f:FuncId) (l:List A):jI (.fn f l)=true:=rfl
theorem jGP (n:Int):jI (vi n)=true:=rfl
theorem jGO (b:Bool):jI (vb b)=true:=rfl
theorem jGN (l:List UInt8):jI (sv l)=true:=rfl
theorem jGT (n:Nat) (i:Int):Zf n (vi i)=if 0<=i/\i < (n:Int) then some i.toNat else none:=rfl
theorem zz {n i:Nat} (h:i < n):Zf n (vi i)=some i:=by
 rw [jGT,jg ⟨by omega,by omega⟩];simp
theorem jAM (k:Nat) (xs:List (List A)):jjw k (.sl k xs)=some xs:=jg rfl
theorem jGW (a:A) (l:List A):jb7 (.tup (a::l)) 0=some a:=rfl
theorem jGX (a b:A) (l:List A):jb7 (.tup (a::b::l)) 1=some b:=rfl
theorem jGY (a b c:A) (l:List A):jb7 (.tup (a::b::c::l)) 2=some c:=rfl
theorem jDK (x y:Int):jtj (vi x) (vi y)=some (vi (if x < y then y else x)):=by
 unfold jtj;simp
theorem jDL (x y:Int):jwS (vi x) (vi y)=some (vi (if y < x then y else x)):=by
 unfold jwS;simp
theorem jIy (a:A) (l:List A) (i:Nat):hD (a,l) i=l[i]? :=rfl
theorem jL4 (k:Nat) (a:A) (xs:List (List A)) (l:List A):hR k (a,.sl k xs::l) 0=some xs:=by simp [hR]
theorem jL5 (k:Nat) (a b:A) (xs:List (List A)) (l:List A):hR k (a,b:: .sl k xs::l) 1=some xs:=by simp [hR]
theorem jL6 (k:Nat) (a b c:A) (xs:List (List A)) (l:List A):hR k (a,b::c:: .sl k xs::l) 2=some xs:=by simp [hR]
theorem qP {f:FuncId} {caps args:List A} {c:Bool} (h:K.pureF f=true):DX.run K (MM K) (.callc (.fn f caps) args c)=(G f (args++caps)).bind (fin c):=by
 simp only [DX.run,h,Jw]
theorem ja {α:Type} {k:Nat} {f:α->List A} {xs:List α} {i:Nat} (h:i < xs.length):jl k (.sl k (xs.map f)) (vi i)=some (.elt (f xs[i]) 0):=by
 simp only [jl,Jw,kj,zz h,JS];simp [zY,h]
theorem js {i n:Nat} (h:i < n) (hn:n<=9223372036854775807):ju .add false (vi i) (vi 1)=some (vi ((i+1:Nat):Int)):=by
 rw [KX,jE (by omega) (by omega)];rfl
theorem jIQ (d top:Nat) (z:Int):pB d top (some (vi z))=if 0<=z/\z<=(top:Int) then some z.toNat else none:=rfl
theorem Jq {d top n:Nat} (h:n<=top):pB d top (some (vi n))=some n:=by
 rw [jIQ,jg ⟨by omega,by omega⟩];simp
theorem yg {d top:Nat} (h:d<=top):pB d top none=some d:=jg h
theorem jn0 (xs:List (List A)):yM xs=xs.length:=rfl
theorem Jh (xs:List (List A)) (off:Nat):yi xs off=xs.length - off:=rfl
theorem jvq (ys:List (List A)) (n:Nat):jwX ys n=vi (min ys.length n:Nat):=rfl
theorem jqQ (ys:List (List A)) (n:Nat):jlD ys n=ys.take n:=rfl
theorem je3 (xs:List (List A)) (off n:Nat):yW xs off n=(xs.drop off).take n:=rfl
theorem jad (xs:List (List A)) (off:Nat) (ys:List (List A)):qj xs off ys=xs.take off++ys++xs.drop (off+ys.length):=rfl
theorem qO (a b:Nat):kP a b=a - b:=rfl
theorem jAL (off n:Nat) (ys xs:List (List A)):jly off n ys xs=decide (off+n+ys.length<=xs.length):=rfl
theorem upto {P:Nat->Prop} {n:Nat} (h0:P n) (hs:∀i,i < n->P (i+1)->P i):∀i,i<=n->P i:=by
 intro i hi;obtain ⟨k,hk⟩:∃k,n=i+k:=⟨n - i,by omega⟩;induction k generalizing i with
 | zero=>rw [show i=n by omega];exact h0
 | succ k ih=>exact hs i (by omega) (ih (i+1) (by omega) (by omega))
theorem ji {α:Type} {xs:List α} {i:Nat} (h:i < xs.length):xs.drop i=xs[i]::xs.drop (i+1):=jtT h
theorem evs :
  ((-1:Int) < 0)/\
  (∀ {α:Type} (x y:α),brn true x y=x)/\
  (∀ {α:Type} (x y:α),brn false x y=y)/\
  (∀ {α:Type} (b:Bool) (x y:α),brn b x y=if b=true then x else y)/\
  (∀ {α β:Type} (a:α) (f:α->Option β),(some a).bind f=f a)/\
  (∀ {α β:Type} (f:α->Option β),none.bind f=none)/\
  (∀(b:Bool),JB (vb b)=some b)/\
  (∀(b:Bool) (x y:A),KY (vb b) x y=some (if b=true then x else y))/\
  (∀(b w:Bool) (x:Option A),pG (vb b) w x=if b=w then x else some (A.val undef))/\
  (∀(b w:Bool),Yb (vb b) w=some (decide (b=w)))/\
  (∀(w:Bool) (x:Option A),pG (A.val undef) w x=some (A.val undef))/\
  (∀(w:Bool),Yb (A.val undef) w=some false)/\
  (∀(k:Nat) (xs:List (List A)),zn (A.sl k xs)=some (vi ↑xs.length))/\
  (∀(xs:List (List A)),zU xs=vi ↑xs.length)/\
  (∀(xs:List (List A)),jm xs=xs.length)/\
  (∀(l:List UInt8),jb5 (sv l)=some (vi ↑l.length))/\
  (∀(a:A),fin false (a,[])=some a)/\
  (∀(b c:Bool),fin c (vb b,[])=some (vb b))/\
  (∀(c:Bool) (n:Int),fin c (vi n,[])=some (vi n))/\
  (∀(b:Bool),Jr UnOp.not (vb b)=some (vb !b))/\
  (∀(b:Bool) (x y:Int),ju BinOp.lss b (vi x) (vi y)=some (vb (decide (x < y))))/\
  (∀(b:Bool) (x y:Int),ju BinOp.leq b (vi x) (vi y)=some (vb (decide (x<=y))))/\
  (∀(b:Bool) (x y:Int),ju BinOp.gtr b (vi x) (vi y)=some (vb (decide (y < x))))/\
  (∀(b:Bool) (x y:Int),ju BinOp.geq b (vi x) (vi y)=some (vb (decide (y<=x))))/\
  (∀(b:Bool) (x y:Int),ju BinOp.eql b (vi x) (vi y)=some (vb (decide (x=y))))/\
  (∀(b:Bool) (x y:Int),ju BinOp.neq b (vi x) (vi y)=some (vb !decide (x=y)))/\
  (∀(b:Bool) (x y:Int),ju BinOp.lss b (vy x) (vy y)=some (vb (decide (x < y))))/\
  (∀(b:Bool) (x y:Int),ju BinOp.leq b (vy x) (vy y)=some (vb (decide (x<=y))))/\
  (∀(b:Bool) (x y:Int),ju BinOp.gtr b (vy x) (vy y)=some (vb (decide (y < x))))/\
  (∀(b:Bool) (x y:Int),ju BinOp.geq b (vy x) (vy y)=some (vb (decide (y<=x))))/\
  (∀(b:Bool) (x y:Int),ju BinOp.eql b (vy x) (vy y)=some (vb (decide (x=y))))/\
  (∀(b:Bool) (x y:Int),ju BinOp.neq b (vy x) (vy y)=some (vb !decide (x=y)))/\
  (∀(x y:Bool),ju BinOp.eql true (vb x) (vb y)=some (vb (decide (x=y))))/\
  (∀(x y:Bool),ju BinOp.neq true (vb x) (vb y)=some (vb !decide (x=y)))/\
  (∀(b:Bool) (x y:Int),ju BinOp.add b (vi x) (vi y)=ck (x+y))/\
  (∀(b:Bool) (x y:Int),ju BinOp.sub b (vi x) (vi y)=ck (x - y))/\
  (∀(b:Bool) (x y:Int),ju BinOp.mul b (vi x) (vi y)=ck (x * y))/\
  (∀(b:Bool) (x y:List UInt8),ju BinOp.eql b (sv x) (sv y)=some (vb (decide (x=y))))/\
  (∀(b:Bool) (x y:List UInt8),ju BinOp.neq b (sv x) (sv y)=some (vb !decide (x=y)))/\
  (∀(b:Bool) (x y:List UInt8),ju BinOp.lss b (sv x) (sv y)=some (vb (yX x y)))/\
  (∀(a:A) (l:List A),kN (A.elt (a::l) 0)=some a)/\
  (∀(cs:List A) (off n:Nat),qi (A.elt cs off) n=some (A.elt cs (off+n)))/\
  (∀(off:Nat) (cs:List A),jjq off (A.agg cs)=cs[off]?)/\
  (∀(n:Nat) (ds:List A),jaO n (A.agg ds)=if ds.length=n/\ds.all jI=true then some ds else none)/\
  (∀(a:A) (l:List A),jb (a::l) 0=a)/\
  (∀(a b:A) (l:List A),jb (a::b::l) 1=b)/\
  (∀(a b c:A) (l:List A),jb (a::b::c::l) 2=c)/\
  (∀(a b c d:A) (l:List A),jb (a::b::c::d::l) 3=d)/\
  (∀(k:Nat) (xs:List (List A)),jI (A.sl k xs)=true)/\
  (∀(cs:List A) (o:Nat),jI (A.elt cs o)=true)/\
  (∀(f:FuncId) (l:List A),jI (A.fn f l)=true)/\
  (∀(n:Int),jI (vi n)=true)/\
  (∀(b:Bool),jI (vb b)=true)/\
  (∀(l:List UInt8),jI (sv l)=true)/\
  (∀(k:Nat) (xs:List (List A)),jjw k (A.sl k xs)=some xs)/\
  (∀(a:A) (l:List A),jb7 (A.tup (a::l)) 0=some a)/\
  (∀(a b:A) (l:List A),jb7 (A.tup (a::b::l)) 1=some b)/\
  (∀(a b c:A) (l:List A),jb7 (A.tup (a::b::c::l)) 2=some c)/\
  (∀(x y:Int),jtj (vi x) (vi y)=some (vi (if x < y then y else x)))/\
  (∀(x y:Int),jwS (vi x) (vi y)=some (vi (if y < x then y else x)))/\
  (∀(a:A) (l:List A) (i:Nat),hD (a,l) i=l[i]?)/\
  (∀(k:Nat) (a:A) (xs:List (List A)) (l:List A),hR k (a,A.sl k xs::l) 0=some xs)/\
  (∀(k:Nat) (a b:A) (xs:List (List A)) (l:List A),hR k (a,b::A.sl k xs::l) 1=some xs)/\
  (∀(k:Nat) (a b c:A) (xs:List (List A)) (l:List A),hR k (a,b::c::A.sl k xs::l) 2=some xs)/\
  (∀ {α:Type} {a:α} {l:List α} {f:α->Bool},(a::l).all f=(f a && l.all f))/\
  (∀ {α:Type} {f:α->Bool},([]:List α).all f=true)/\
  (∀ {α:Type} {a:α} {l:List α},(a::l).length=l.length+1)/\
  (∀ {α:Type},([]:List α).length=0)/\
  (∀ {α β:Type} {l:List α} (f:α->β),(List.map f l).length=l.length)/\
  (∀(n:Nat),0+n=n)/\
  (∀(b:Bool),(b && b)=b)/\
  (∀(b:Bool),(b && true)=b)/\
  (∀(p:Prop),(p/\p)=p)/\
  (∀ {α:Type} {_x:Decidable True} (t e:α),(if True then t else e)=t)/\
  (∀ {α:Type} {_x:Decidable False} (t e:α),(if False then t else e)=e)/\
  ((true=false)=False)/\
  ((false=true)=False)/\
  (∀(_h:Decidable True),decide True=true)/\
  (∀(_h:Decidable False),decide False=false)/\
  ((!true)=false)/\
  ((!false)=true)/\
  (∀(b:Bool),((!b)=true)=(b=false))/\
  (∀ {p:Prop} [Decidable p],(decide p=true)=p)/\
  (∀ {p:Prop} {x:Decidable p},decide p=false↔ ¬p)/\
  (∀(a:Int),¬a < a)/\
  ((¬True)=False)/\
  ((¬False)=True)/\
  (∀ {α:Type} (a b:α),(if True then a else b)=a)/\
  (∀ {α:Type} (a b:α),(if False then a else b)=b):=
 ⟨@jDB,@jex,@Yt,@jCa,@yy.{0,0},@Option.bind_none.{0,0},@YT,@jju,@jAG,@jqz,@jAF,@jqy,@jAI,@KZ,@jjE,@jb6,@jpq,@jGo,@jGp,@jDM,@jeZ,@jAz,@jb4,@jAy,@jqt,@jAB,@jwK,@jwJ,@jwI,@jwH,@jwG,@jwL,@jwM,@jwN,@KX,@jqu,@jAA,@jf3,@jwR,@jwQ,@jAK,@qV,@jti,@jth,@jvZ,@jx9,@jya,@jsz,@jtd,@jDE,@jGM,@jGP,@jGO,@jGN,@jAM,@jGW,@jGX,@jGY,@jDK,@jDL,@jIy,@jL4,@jL5,@jL6,@yU.{0},@QO.{0},@zk.{0},@yw.{0},@kj.{0,0},@yd,@QM,@ZC,@and_self,@Jw.{1},@K6.{1},@Bool.true_eq_false,@Zi,@decide_true,@decide_false,@jgj,@Bool.not_false,@jan,@kM,@jcx,@Int.lt_irrefl,@not_true_eq_false,@not_false_eq_true,@ite_true.{1},@ite_false.{1}⟩
end
theorem jIh:(∀ {α:Type} {h:Decidable True} (a b:α),@ite α True h a b=a)/\(∀ {α:Type} {h:Decidable False} (a b:α),@ite α False h a b=b)/\(1+1=2/\1+2=3/\1+3=4/\1+4=5/\2+1=3/\2+2=4/\2+3=5/\2+4=6/\3+1=4/\3+2=5/\3+3=6/\3+4=7/\4+1=5/\4+2=6/\4+3=7/\4+4=8/\5+1=6/\5+2=7/\5+3=8/\5+4=9/\6+1=7/\6+2=8/\6+3=9/\6+4=10/\7+1=8/\7+2=9/\7+3=10/\7+4=11/\8+1=9/\8+2=10/\8+3=11/\8+4=12/\9+1=10/\9+2=11/\9+3=12/\9+4=13/\10+1=11/\10+2=12/\10+3=13/\10+4=14/\11+1=12/\11+2=13/\11+3=14/\11+4=15/\12+1=13/\12+2=14/\12+3=15/\12+4=16):=by refine ⟨?_,?_,by decide⟩<;>intros<;>simp
theorem jd:type_of% (And.intro evs (And.intro cev jIh)):=And.intro evs (And.intro cev jIh)
open Go Go.RowKit Go.ChangeShapes Go.Deep Go.Proofs.YtbgikpffkgjecaaGreatDoor.Abs
section
variable {P:Program} {t:Nat} {H:Type} {enc:TypeId × Value->H} {w:World} {base:Nat} {spare:Nat->Bool} {held:Bool} {fuel:Nat} {cs:List Value} {x:DataW H × List MemPlace}
end
inductive T where
 | mk (name:List UInt8) (args:List T)
def T.name:T->List UInt8 | .mk n _=>n
def T.args:T->List T | .mk _ us=>us
theorem T.eta (t:T):T.mk t.name t.args=t:=by cases t;rfl
mutual
def jo:T->List A
 | .mk n us=>[sv n,.sl 2 (jhJ us)]
def jhJ:List T->List (List A)
 | []=>[]
 | t::ts=>jo t::jhJ ts
end
theorem jg6:∀ts:List T,jhJ ts=ts.map jo
 | []=>rfl
 | t::ts=>by simp [jhJ,jg6 ts]
theorem kG (t:T):jo t = [sv t.name,.sl 2 (t.args.map jo)]:=by
 cases t;simp [jo,T.name,T.args,jg6]
abbrev tm (t:T):A:= .agg [sv t.name,.sl 2 (t.args.map jo)]
abbrev jH (ts:List T):A:= .sl 2 (ts.map jo)
theorem je (t:T):ky 2 (.elt (jo t) 0)=some (.agg [sv t.name,.sl 2 (t.args.map jo)]):=by rw [kG];rfl
mutual
def tsz:T->Nat
 | .mk n us=>n.length+us.length+Jd us
def Jd:List T->Nat
 | []=>0
 | t::ts=>tsz t+Jd ts
end
theorem kH (t:T):tsz t=t.name.length+t.args.length+Jd t.args:=by cases t;simp [tsz,T.name,T.args]
theorem y7:∀ {ts:List T} {t:T},t∈ts->tsz t<=Jd ts
 | [],_,h=>by cases h
 | u::us,t,h=>by
  simp only [Jd];rcases jZ.1 h with rfl|h
  ·omega
  ·have:=y7 h;omega
mutual
def Zc:T->Prop
 | .mk n us=>n.length<=9223372036854775807/\us.length<=9223372036854775807/\jxp us
def jxp:List T->Prop
 | []=>True
 | t::ts=>Zc t/\jxp ts
end
theorem kR (t:T):Zc t↔t.name.length<=9223372036854775807/\t.args.length<=9223372036854775807/\jxp t.args:=by cases t;simp [Zc,T.name,T.args]
theorem kW:∀ts:List T,jxp ts↔ ∀t∈ts,Zc t
 | []=>by simp [jxp]
 | t::ts=>by simp [jxp,kW ts]
theorem T.ind {p:T->Prop} (h:∀t,(∀u∈t.args,p u)->p t):∀t,p t:=by
 intro t;induction hn:SizeOf.sizeOf t using Nat.strongRecOn generalizing t with
 | ind n ih=>
  subst hn;refine h t λu hu=>ih (SizeOf.sizeOf u) ?_ u rfl;cases t with
  | mk nm us=>
   have:=List.sizeOf_lt_of_mem hu;simp only [T.args] at this;simp only [T.mk.sizeOf_spec];omega
section
variable {P:Program} {tT tS:Nat}
end
structure Ord' where
 syms:List (List UInt8)
 ws:List Int
 var:Int
abbrev jnS (o:Ord'):List A:=[strs o.syms,ints o.ws,vi o.var]
abbrev od (o:Ord'):A:= .agg [strs o.syms,ints o.ws,vi o.var]
def owf (o:Ord'):Prop:=((∀s∈o.syms,s.length<=9223372036854775807)/\o.syms.length<=9223372036854775807)/\((∀x∈o.ws,I64 x)/\o.ws.length<=9223372036854775807)/\I64 o.var
set_option maxHeartbeats 1000000
def jMI (left n:Int):Int:=if 0<=left - n then left - n else -1
def part {α:Type} (f:α->List A) (z:List A) (xs:List α) (i:Nat):List (List A):=(xs.take i).map f++List.replicate (xs.length - i) z
section
variable {α:Type} {f:α->List A} {z:List A} {xs:List α}
theorem jlz:Zw xs.length z=part f z xs 0:=by simp [part,Zw]
theorem jqC:part f z xs xs.length=xs.map f:=by simp [part]
theorem jgV {i:Nat} (h:i<=xs.length):(part f z xs i).length=xs.length:=by simp [part];omega
theorem jqD {i:Nat} (h:i < xs.length):jac (part f z xs i) i=some z:=by
 unfold jac part;rw [Qe (by simp;omega)];simp;rw [List.getElem?_replicate,jg (by omega)]
theorem jqE {i:Nat} (h:i < xs.length):qg (part f z xs i) i (f xs[i])=part f z xs (i+1):=by
 unfold qg part;have e:xs.length - i=(xs.length - (i+1))+1:=by omega
 rw [List.set_append_right _ _ (by simp;omega),e,jcB]
 simp only [kj,Ky,ja4 (Qc h),jgk,jrO];rw [<-List.take_append_getElem h,zy];simp
end
theorem jez (a b c d:A):yO [a,b] 0 [c,d] = [c,d]:=rfl
theorem jf6 {b n:Nat} (hb:(b:Int) * (n:Int)<=281474976710656) (hn:n<=1048576):jjt b (vi n) (vi n)=some n:=by
 show (if _ then _ else _)=_;rw [jg (show jBZ b n n from ⟨by omega,Int.le_refl _,hb,by omega⟩),jgm]
theorem KD {k:Nat} {xs:List (List A)} {i:Nat} (h:i<=xs.length):yq k (.sl k xs) none (some (vi i))=some (.sl k (xs.take i)):=by
 simp only [yq,Zr,yy];rw [jg ⟨trivial,Int.le_refl _,by omega,by omega⟩];simp
theorem qd {k:Nat} {xs:List (List A)} {i:Nat} (h:i<=xs.length):yq k (.sl k xs) (some (vi i)) none=some (.sl k (xs.drop i)):=by
 simp only [yq,Zr,yy];rw [jg ⟨trivial,by omega,by omega,by omega⟩];simp
def jL8 (k:Int):Nat->List Int
 | 0=>[]
 | n+1=>k::jL8 (k+1) n
section
variable {α:Type} {f:α->List A} (M r:List α) (x:α)
end
section
variable (M R:List (List A)) (x y:List A)
end
def jBs:List (List UInt8)->Nat
 | []=>0
 | s::l=>s.length+jBs l
def osz (o:Ord'):Nat:=o.syms.length+jBs o.syms+o.ws.length
theorem Zs {l:List UInt8} {i:Nat} (h:i < l.length):ye (sv l) (vi i)=some (vy (l[i].toNat:Int)):=by
 show (if _ then _ else _)=_;rw [jg ⟨by omega,by simpa using h⟩];simp [zY,h]
theorem qW {c:UInt8} {l:List UInt8} :ye (sv (c::l)) (vi 0)=some (vy (c.toNat:Int)):=Zs (i:=0) (l:=c::l) (by simp)
def qx (lo hi x:Int):Bool:=decide (lo<=x) && decide (x<=hi)
theorem qh (x a b:Int):G 15 [vi x,vi a,vi b]=some (vb (qx a b x),[]):=by
 rw [g15];by_cases h:a<=x<;>simp only [jd,h,qx,jR,jK]
theorem yx (x a b:Int):G 68 [vi x,vi a,vi b]=some (vb (qx a b x),[]):=by
 rw [g68];by_cases h:a<=x<;>simp only [jd,h,qx,jR,jK]
def upc (c:UInt8):Bool:=qx 65 90 (c.toNat:Int)
def jc7 (c:UInt8):Bool:=qx 97 122 (c.toNat:Int)
def jv4 (c:UInt8):Bool:=qx 48 57 (c.toNat:Int)
def Kc (c:UInt8):Bool:=jc7 c || jv4 c
theorem jdF (c:UInt8):G 169 [vy (c.toNat:Int)]=some (vb (upc c),[]):=by
 rw [jKV];by_cases h:65<=(c.toNat:Int)<;>simp only [jd,h,upc,qx,jR,jK]
theorem jdE (c:UInt8):G 236 [vy (c.toNat:Int)]=some (vb (jc7 c),[]):=by
 rw [jLI];by_cases h:97<=(c.toNat:Int)<;>simp only [jd,h,jc7,qx,jR,jK]
theorem jiG (c:UInt8):G 237 [vy (c.toNat:Int)]=some (vb (jv4 c),[]):=by
 rw [jLJ];by_cases h:48<=(c.toNat:Int)<;>simp only [jd,h,jv4,qx,jR,jK]
theorem jiV (c:UInt8):G 192 [vy (c.toNat:Int)]=some (vb (Kc c),[]):=by
 rw [jLb];by_cases h:97<=(c.toNat:Int)<;>by_cases h2:(c.toNat:Int)<=122<;>by_cases h3:48<=(c.toNat:Int)<;>simp only [jd,h,h2,h3,Kc,jc7,jv4,qx,jR,jK,Bool.or_true,QN,Jl,zF]
def jp:List UInt8->Bool
 | []=>false
 | c::r=>upc c && (r.all Kc && decide (r.length<=3))
theorem jhx (r:List UInt8) (k:Nat) (hk:k<=9):qx 1 (k+1:Nat) (((r.length+1:Nat)):Int)=decide (r.length<=k):=by
 unfold qx;have:decide ((1:Int)<=((r.length+1:Nat):Int))=true:=by simp;omega
 rw [this,jR];by_cases h:r.length<=k<;>simp [h]<;>omega
theorem jhi (s:List UInt8) (hs:s.length<=9223372036854775807):∀i,i<=s.length->1<=i->jid (sv s) (vi (s.length:Nat)) (vi i)=some (vb ((s.drop i).all Kc && qx 1 4 (s.length:Nat)),[]):=by
 refine upto (P:=λi=>1<=i->jid (sv s) (vi (s.length:Nat)) (vi i)=some (vb ((s.drop i).all Kc && qx 1 4 (s.length:Nat)),[])) ?_ ?_
 ·intro _;rw [jnA,kg];have e:=qh (s.length:Nat) 1 4;simp only [jd,e,jR]
 ·intro i hi ih h1;have ih:=ih (by omega);have hn:¬((i:Int)=0):=by omega
  have hp:(0:Int) < (i:Int):=by omega
  have hlt:(i:Int) < ((s.length:Nat):Int):=by omega
  have h5:=js hi hs;have hx:=Zs hi;have e1:=jdE s[i];have e2:=jiG s[i];rw [jnA,ji hi];generalize s[i]=ch at *;rw [yU];cases h8:jc7 ch<;>cases h9:jv4 ch<;>rw [h8] at e1<;>rw [h9] at e2<;>simp only [jd,hn,hp,hlt,hx,e1,e2,h5,ih,Kc,h8,h9,jR,jK,Bool.or_true,QN,Jl,zF]
theorem jdl (s:List UInt8) (hs:s.length<=9223372036854775807):G 234 [sv s]=some (vb (jp s),[]):=by
 rw [jLG];show (jb5 (sv s)).bind _=_;rw [jb6,yy];cases s with
 | nil=>
  rw [jnA];have e:=qh ((0:Nat):Int) 1 4;simp only [jd,e];rfl
 | cons c r=>
  have key:=jhi (c::r) hs 1 (by simp) (kz _);simp only [jka,kD] at key;have e':qx 1 4 (((c::r).length:Nat):Int)=decide (r.length<=3):=jhx r 3 (by decide);rw [e'] at key;rw [jnA];have h5:ju .add false (vi 0) (vi 1)=some (vi ((1:Nat):Int)):=by rw [KX,jE (by decide) (by decide)];rfl
  have h6:(0:Int) < (((c::r).length:Nat):Int):=Int.natCast_pos.2 (Nat.succ_pos _);have e1:=jdF c;generalize ((((c::r).length:Nat)):Int)=n at *;cases hu:upc c<;>rw [hu] at e1<;>simp only [jd,h6,qW,e1,h5,key,jp,hu,jR,jK]
theorem js1 (s:List UInt8) (hs:s.length<=9223372036854775807):∀i,i<=s.length->jfC (sv s) (vi i)=some (vb ((s.drop i).all Kc),[]):=by
 refine upto (P:=λi=>jfC (sv s) (vi i)=some (vb ((s.drop i).all Kc),[])) ?_ ?_
 ·rw [jzn,kg];simp only [jd]
 ·intro i hi ih;have hlt:(i:Int) < ((s.length:Nat):Int):=by omega
  have h5:=js hi hs;have hx:=Zs hi;have e1:=jiV s[i];rw [jzn,ji hi];generalize s[i]=ch at *;rw [yU];cases h8:Kc ch<;>rw [h8] at e1<;>simp only [jd,hlt,hx,e1,h5,ih,h8,jR,jK]
theorem zK (s:List UInt8) (hs:s.length<=9223372036854775807):G 140 [sv s]=some (vb (jp s),[]):=by
 rw [jKC];show (jb5 (sv s)).bind _=_;rw [jb6,yy];cases s with
 | nil=>
  have e:=yx ((0:Nat):Int) 1 4;simp only [jd,e];rfl
 | cons c r=>
  have e:=yx (((c::r).length:Nat):Int) 1 4;have e':qx 1 4 (((c::r).length:Nat):Int)=decide (r.length<=3):=jhx r 3 (by decide);rw [e'] at e;have key:=js1 (c::r) hs 1 (by simp);simp only [jka,kD] at key;have key:jfC (sv (c::r)) (vi 1)=some (vb (r.all Kc),[]):=key;generalize ((((c::r).length:Nat)):Int)=n at *;by_cases h3:r.length<=3
  ·rw [jQ h3] at e;by_cases ha:(c.toNat:Int) < 65
   ·have:¬(65<=(c.toNat:Int)):=by omega
    simp only [jd,e,qW,ha,jp,upc,qx,this,jK]
   ·have h65:65<=(c.toNat:Int):=by omega
    by_cases hb:90 < (c.toNat:Int)
    ·have:¬((c.toNat:Int)<=90):=by omega
     simp only [jd,e,qW,ha,hb,jp,upc,qx,this,jK,zr]
    ·have:(c.toNat:Int)<=90:=by omega
     simp only [jd,e,qW,ha,hb,jp,upc,qx,this,h65,key,h3,jR,ZC]
  ·rw [kA h3] at e;simp only [jd,e,jp,h3,zr]
def qQ (s:List UInt8):List (List UInt8)->Option Nat
 | []=>none
 | x::l=>if s=x then some 0 else (qQ s l).map (· + 1)
def yE (i:Nat):Option Nat->Int
 | none=> -1
 | some k=>((i+k:Nat):Int)
theorem Qm (s:List UInt8):∀l,(qQ s l).isSome=l.contains s
 | []=>rfl
 | x::l=>by
  simp only [qQ,jot];by_cases h:s=x
  ·simp [h]
  ·have:=Qm s l;simp [h,this]
theorem jhw {s:List UInt8} :∀ {l:List (List UInt8)} {k:Nat},qQ s l=some k->k < l.length/\l[k]? = some s
 | [],_,h=>by cases h
 | x::l,k,h=>by
  simp only [qQ] at h;split at h
  ·rename_i e;cases h;exact ⟨by simp,by simp [e]⟩
  ·obtain ⟨j,h1,rfl⟩:=yB.1 h;have:=jhw h1;exact ⟨by simp;exact this.1,by simpa using this.2⟩
theorem jv9 (s:List UInt8) (l:List (List UInt8)):decide (yE 0 (qQ s l) < 0)=!l.contains s:=by
 rw [<-Qm];cases qQ s l<;>simp [yE]
theorem jno (s:List UInt8) (l:List (List UInt8)):decide (0<=yE 0 (qQ s l))=l.contains s:=by
 rw [<-Qm];cases qQ s l<;>simp [yE]
theorem jix {s x:List UInt8} {l:List (List UInt8)} {i:Nat} (h:¬s=x):yE (i+1) (qQ s l)=yE i (qQ s (x::l)):=by
 simp only [qQ,h,K6];cases qQ s l<;>simp [yE];omega
theorem jaF (l:List (List UInt8)) (s:List UInt8) (hl:l.length<=9223372036854775807):G 240 [strs l,sv s]=some (vi (yE 0 (qQ s l)),[]):=by
 have key:=upto (P:=λi=>jmX (strs l) (sv s) (vi (l.length:Nat)) (vi i)=some (vi (yE i (qQ s (l.drop i))),[])) (n:=l.length) ?_ ?_ 0 (ko _)
 ·simp only [kU,kD] at key;rw [jLL];simp only [jd,key]
 ·rw [jzX,kg];simp only [jd,qQ,yE]
 ·intro i hi ih;have hlt:(i:Int) < ((l.length:Nat):Int):=by omega
  have h5:=js hi hl;rw [jzX,ji hi];by_cases h:s=l[i]
  ·simp only [jd,hlt,ja hi,h,qQ,yE,j9]
  ·simp only [jd,hlt,ja hi,h,h5,ih,jix h]
theorem ZF (l:List (List UInt8)) (s:List UInt8) (hl:l.length<=9223372036854775807):G 204 [strs l,sv s]=some (vb (l.contains s),[]):=by
 have e:=jaF l s hl;rw [jLl];simp only [jd,e,jno]
theorem jhE (o:Ord') (s:List UInt8) (hl:o.syms.length<=9223372036854775807):G 268 [od o,sv s]=some (vi (yE 0 (qQ s o.syms)),[]):=by
 have key:=upto (P:=λi=>jm0 (sv s) (vi i) (strs o.syms) (ints o.ws) (vi o.var)=some (vi (yE i (qQ s (o.syms.drop i))),[])) (n:=o.syms.length) ?_ ?_ 0 (ko _)
 ·simp only [kU,kD] at key;rw [jLU];simp only [jd,key]
 ·rw [jz2,kg];simp only [jd,qQ,yE]
 ·intro i hi ih;have hlt:(i:Int) < ((o.syms.length:Nat):Int):=by omega
  have h5:=js hi hl;rw [jz2,ji hi];by_cases h:s=o.syms[i]
  ·simp only [jd,hlt,ja hi,h,qQ,yE,j9]
  ·have h':¬o.syms[i]=s:=λe=>h e.symm;simp only [jd,hlt,ja hi,h',h5,ih,jix h]
theorem jnF (l:List (List UInt8)) (s:List UInt8) (hl:l.length<=9223372036854775807):G 185 [strs l,sv s]=some (vb (l.contains s),[]):=by
 have key:=upto (P:=λi=>jmN (strs l) (sv s) (vi i)=some (vb ((l.drop i).contains s),[])) (n:=l.length) ?_ ?_ 0 (ko _)
 ·simp only [kU,kD] at key;rw [jK5];exact key
 ·rw [jzJ,kg];simp only [jd,List.contains_nil]
 ·intro i hi ih;have hlt:(i:Int) < ((l.length:Nat):Int):=by omega
  have h5:=js hi hl;rw [jzJ,ji hi,jot];by_cases h:l[i]=s
  ·have:(s == l[i])=true:=by simp [h]
   simp only [jd,hlt,ja hi,h,this,Jl];simp
  ·have:(s == l[i])=false:=by simp;exact λe=>h e.symm
   simp only [jd,hlt,ja hi,h,this,h5,ih,zF]
def jqZ:List (List UInt8):=[[116,114,117,101],[102,97,108,115,101],[116,114,117,116,104],[98,111,116,104],[101,105,116,104,101,114],[105,102],[97,108,108],[115,111,109,101]]
def joh (c:UInt8):Bool:=Kc c || decide ((c.toNat:Int)=95)
def y5:List UInt8->Bool
 | []=>false
 | c::r=>jc7 c && (r.all joh && (decide (r.length<=5) && !jqZ.contains (c::r)))
theorem jB8 (a b:List UInt8):(a == b)=decide (a=b):=by by_cases h:a=b<;>simp [h]
theorem jky (s:List UInt8) (hs:s.length<=9223372036854775807):∀i,i<=s.length->1<=i->jh9 (sv s) (vi (s.length:Nat)) (vi i)=some (vb ((s.drop i).all joh && (qx 1 6 (s.length:Nat) && !jqZ.contains s)),[]):=by
 refine upto (P:=λi=>1<=i->jh9 (sv s) (vi (s.length:Nat)) (vi i)=some (vb ((s.drop i).all joh && (qx 1 6 (s.length:Nat) && !jqZ.contains s)),[])) ?_ ?_
 ·intro _;rw [jnz,kg];have e:=qh (s.length:Nat) 1 6;have e2:=ZF jqZ s (by decide);have e3:G 238 []=some (strs jqZ,[]):=jLK;cases h:qx 1 6 (s.length:Nat)<;>rw [h] at e<;>simp only [jd,e,e2,e3,h,jR,jK,QO]
 ·intro i hi ih h1;have ih:=ih (by omega);have hn:¬((i:Int)=0):=by omega
  have hlt:(i:Int) < ((s.length:Nat):Int):=by omega
  have h5:=js hi hs;have hx:=Zs hi;have e1:=jdE s[i];have e2:=jiG s[i];rw [jnz,ji hi];generalize s[i]=ch at *;rw [yU];cases h7:decide ((ch.toNat:Int)=95)<;>cases h8:jc7 ch<;>cases h9:jv4 ch<;>rw [h8] at e1<;>rw [h9] at e2<;>
   simp only [jd,hn,hlt,hx,e1,e2,h5,ih,joh,Kc,h7,h8,h9,jR,jK,Bool.or_true,QN,Jl,zF]
theorem jbR (s:List UInt8) (hs:s.length<=9223372036854775807):G 199 [sv s]=some (vb (y5 s),[]):=by
 rw [jLh];show (jb5 (sv s)).bind _=_;rw [jb6,yy];cases s with
 | nil=>
  rw [jnz];have e:G 15 [vi ((0:Nat):Int),vi 1,vi 6]=some (vb false,[]):=qh ((0:Nat):Int) 1 6;simp only [jd,e];rfl
 | cons c r=>
  have key:=jky (c::r) hs 1 (by simp) (kz _);simp only [jka,kD] at key;have e':qx 1 6 (((c::r).length:Nat):Int)=decide (r.length<=5):=jhx r 5 (by decide);rw [e'] at key;rw [jnz];have h5:ju .add false (vi 0) (vi 1)=some (vi ((1:Nat):Int)):=by rw [KX,jE (by decide) (by decide)];rfl
  have h6:(0:Int) < (((c::r).length:Nat):Int):=Int.natCast_pos.2 (Nat.succ_pos _);have e1:=jdE c;generalize ((((c::r).length:Nat)):Int)=n at *;cases hu:jc7 c<;>rw [hu] at e1<;>simp only [jd,h6,qW,e1,h5,key,y5,hu,jR,jK]
theorem jkA (s:List UInt8) (hs:s.length<=9223372036854775807):∀i,i<=s.length->Zj (sv s) (vi i)=some (vb ((s.drop i).all joh),[]):=by
 refine upto (P:=λi=>Zj (sv s) (vi i)=some (vb ((s.drop i).all joh),[])) ?_ ?_
 ·rw [jzy,kg];simp only [jd]
 ·intro i hi ih;have hlt:(i:Int) < ((s.length:Nat):Int):=by omega
  have h5:=js hi hs;have hx:=Zs hi;have e1:=jiV s[i];rw [jzy,ji hi];generalize s[i]=ch at *;rw [yU];cases h7:decide ((ch.toNat:Int)=95)<;>cases h8:Kc ch<;>rw [h8] at e1<;>simp only [jd,hlt,hx,e1,h5,ih,joh,h7,h8,jR,jK,Bool.or_true,QN,Jl,zF]
theorem Qq (s:List UInt8) (hs:s.length<=9223372036854775807):G 162 [sv s]=some (vb (y5 s),[]):=by
 rw [jKR];show (jb5 (sv s)).bind _=_;rw [jb6,yy];cases s with
 | nil=>
  have e:G 68 [vi ((0:Nat):Int),vi 1,vi 6]=some (vb false,[]):=yx ((0:Nat):Int) 1 6;simp only [jd,e];rfl
 | cons c r=>
  have e:=yx (((c::r).length:Nat):Int) 1 6;have e':qx 1 6 (((c::r).length:Nat):Int)=decide (r.length<=5):=jhx r 5 (by decide);rw [e'] at e;have key:=jkA (c::r) hs 1 (by simp);simp only [jka,kD] at key;have key:Zj (sv (c::r)) (vi 1)=some (vb (r.all joh),[]):=key;generalize ((((c::r).length:Nat)):Int)=n at *;have hres:jqZ.contains (c::r)=(decide (c::r = [116,114,117,101]) || (decide (c::r = [102,97,108,115,101]) || (decide (c::r = [116,114,117,116,104]) || (decide (c::r = [98,111,116,104]) || (decide (c::r = [101,105,116,104,101,114]) || (decide (c::r = [105,102]) || (decide (c::r = [97,108,108]) || decide (c::r = [115,111,109,101])))))))):=by
   simp only [jqZ,jot,List.contains_nil,QN,jB8]
  by_cases h3:r.length<=5
  ·rw [jQ h3] at e;by_cases ha:(c.toNat:Int) < 97
   ·have:¬(97<=(c.toNat:Int)):=by omega
    simp only [jd,e,qW,ha,y5,jc7,qx,this,jK]
   ·have h65:97<=(c.toNat:Int):=by omega
    by_cases hb:122 < (c.toNat:Int)
    ·have:¬((c.toNat:Int)<=122):=by omega
     simp only [jd,e,qW,ha,hb,y5,jc7,qx,this,jK,zr]
    ·have h122:(c.toNat:Int)<=122:=by omega
     have e0:y5 (c::r)=(r.all joh && !jqZ.contains (c::r)):=by
      simp [y5,jc7,qx,h65,h122,h3]
     rw [e0,hres];have hx0:=qW (c:=c) (l:=r);clear hres e0;generalize c::r=s at *;cases q0:decide (s = [116,114,117,101]);rotate_left
     ·simp only [jd,e,hx0,ha,hb,q0,Jl,zF,zr]
     cases q1:decide (s = [102,97,108,115,101]);rotate_left
     ·simp only [jd,e,hx0,ha,hb,q0,q1,Jl,zF,zr]
     cases q2:decide (s = [116,114,117,116,104]);rotate_left
     ·simp only [jd,e,hx0,ha,hb,q0,q1,q2,Jl,zF,zr]
     cases q3:decide (s = [98,111,116,104]);rotate_left
     ·simp only [jd,e,hx0,ha,hb,q0,q1,q2,q3,Jl,zF,zr]
     cases q4:decide (s = [101,105,116,104,101,114]);rotate_left
     ·simp only [jd,e,hx0,ha,hb,q0,q1,q2,q3,q4,Jl,zF,zr]
     cases q5:decide (s = [105,102]);rotate_left
     ·simp only [jd,e,hx0,ha,hb,q0,q1,q2,q3,q4,q5,Jl,zF,zr]
     cases q6:decide (s = [97,108,108]);rotate_left
     ·simp only [jd,e,hx0,ha,hb,q0,q1,q2,q3,q4,q5,q6,Jl,zF,zr]
     cases q7:decide (s = [115,111,109,101]);rotate_left
     ·simp only [jd,e,hx0,ha,hb,q0,q1,q2,q3,q4,q5,q6,q7,Jl,zF,zr]
     simp only [jd,e,hx0,ha,hb,q0,q1,q2,q3,q4,q5,q6,q7,Jl,zF,ZC,QN,key]
  ·rw [kA h3] at e;simp only [jd,e,y5,h3,jK,zr]
mutual
def nodes:T->Nat
 | .mk _ us=>1+jr us
def jr:List T->Nat
 | []=>0
 | t::ts=>nodes t+jr ts
end
theorem jT (t:T):nodes t=1+jr t.args:=by cases t;rfl
mutual
def J8:T->Nat
 | .mk _ us=>1+QE us
def QE:List T->Nat
 | []=>0
 | t::ts=>max (J8 t) (QE ts)
end
theorem ZZ (t:T):J8 t=1+QE t.args:=by cases t;rfl
mutual
def zS:T->Bool
 | .mk n us=>if jp n then us.isEmpty else y5 n && (decide (us.length<=4) && jc9 us)
def jc9:List T->Bool
 | []=>true
 | t::ts=>zS t && jc9 ts
end
theorem yp (t:T):zS t=if jp t.name then t.args.isEmpty else y5 t.name && (decide (t.args.length<=4) && jc9 t.args):=by cases t;rfl
theorem qU:∀ts,jc9 ts=ts.all zS
 | []=>rfl
 | t::ts=>by rw [jc9,qU ts,yU]
theorem Jp:∀t:T,nodes t<=1+tsz t:=by
 refine T.ind λt ih=> ?_;have:∀ts:List T,(∀u∈ts,nodes u<=1+tsz u)->jr ts<=ts.length+Jd ts:=by
  intro ts;induction ts with
  | nil=>intro _;simp [jr]
  | cons u us ih=>
   intro h;have h1:=h u (by simp);have h2:=ih λv hv=>h v (by simp [hv]);simp only [jr,Jd,zk];omega
 have h:=this t.args ih;rw [jT,kH];omega
theorem qT (t:T):1<=nodes t:=by rw [jT];omega
theorem qH {ts:List T} {t:T} (h:t∈ts):nodes t<=jr ts:=by
 induction ts with
 | nil=>cases h
 | cons u us ih=>
  simp only [jr];rcases jZ.1 h with rfl|h
  ·omega
  ·have:=ih h;omega
theorem jsE:∀t:T,J8 t<=nodes t:=by
 refine T.ind λt ih=> ?_;have:∀ts:List T,(∀u∈ts,J8 u<=nodes u)->QE ts<=jr ts:=by
  intro ts;induction ts with
  | nil=>intro _;simp [QE]
  | cons u us ih=>
   intro h;have h1:=h u (by simp);have h2:=ih λv hv=>h v (by simp [hv]);simp only [jr,QE];omega
 have h:=this t.args ih;rw [jT,ZZ];omega
theorem jw9 (ts:List T) (hl:ts.length<=9223372036854775807) (hn:jr ts<=1048577) (ih:∀t∈ts,∃r:Nat,G 179 [tm t]=some (vi r,[])/\r<=nodes t/\(nodes t<=30->r=nodes t)/\(30 < nodes t->30 < r)) :
  ∀i,i<=ts.length-> ∀a:Nat,a+jr (ts.drop i)<=1048578-> ∃r:Nat,jmI (vi a) (jH ts) (vi (ts.length:Nat)) (vi i)=some (vi r,[])/\r<=a+jr (ts.drop i)/\(a+jr (ts.drop i)<=30->r=a+jr (ts.drop i))/\(30 < a+jr (ts.drop i)->30 < r):=by
 refine upto ?_ ?_
 ·intro a ha;rw [jsV,kg];simp only [jd,jr,j9];exact ⟨a,rfl,kz _,λ_=>rfl,λh=>h⟩
 ·intro i hi ih' a ha;have hlt:(i:Int) < ((ts.length:Nat):Int):=by omega
  have h5:=js hi hl;rw [ji hi] at ha ⊢;simp only [jr] at ha ⊢;obtain ⟨r1,e1,b1,b2,b3⟩:=ih ts[i] (jC _);by_cases hc:(30:Int) < (a:Int)
  ·refine ⟨a,?_,by omega,by omega,by omega⟩;rw [jsV];simp only [jd,hlt,ja hi,je,hc]
  ·have hk:ck ((a:Int)+(r1:Int))=some (vi ((a+r1:Nat):Int)):=by rw [jE (by omega) (by omega)];rfl
   obtain ⟨r2,e2,c1,c2,c3⟩:=ih' (a+r1) (by omega);refine ⟨r2,?_,by omega,by omega,by omega⟩;rw [jsV];simp only [jd,hlt,ja hi,je,hc,e1,hk,h5,e2]
theorem size_eq:∀t:T,Zc t->tsz t<=1048576-> ∃r:Nat,G 179 [tm t]=some (vi r,[])/\r<=nodes t/\(nodes t<=30->r=nodes t)/\(30 < nodes t->30 < r):=by
 refine T.ind λt ih hw hs=> ?_;obtain ⟨w1,w2,w3⟩:=(kR t).1 hw;have w3:=(kW _).1 w3;have hn:=Jp t;rw [jT] at hn;rw [kH] at hs;obtain ⟨r,h1,h2,h3,h4⟩:=jw9 t.args w2 (by rw [kH] at hn;omega) (λu hu=>ih u hu (w3 u hu) (by have:=y7 hu;omega)) 0 (ko _) 1 (by rw [kH] at hn;simp;omega);simp only [kD,kU,jgl] at h1 h2 h3 h4;refine ⟨r,?_,by rw [jT];exact h2,by rw [jT];exact h3,by rw [jT];exact h4⟩;rw [jKZ];simp only [jd,h1]
theorem jwx (n:List UInt8) (most:Int) (hm1: -1048600<=most) (hm:most<=1048576) (ts:List T) (hl:ts.length<=9223372036854775807) (ih:∀t∈ts,∀m:Int,-1048600<=m->m<=1048576-> ∃r:Nat,G 206 [tm t,vi m]=some (vi r,[])/\1<=r/\r<=nodes t/\((nodes t:Int)<=m->r=nodes t)/\(m < nodes t->m < r)) :
  ∀i,i<=ts.length-> ∀a:Nat,1<=a->a+jr (ts.drop i)<=1048578-> ∃r:Nat,jmR (vi most) (vi a) (vi i) (sv n) (jH ts)=some (vi r,[])/\1<=r/\r<=a+jr (ts.drop i)/\(((a+jr (ts.drop i):Nat):Int)<=most->r=a+jr (ts.drop i))/\(most < ((a+jr (ts.drop i):Nat):Int)->most < r):=by
 refine upto ?_ ?_
 ·intro a h1 ha;rw [jsW,kg];simp only [jd,jr,j9];exact ⟨a,rfl,h1,kz _,λ_=>rfl,λh=>h⟩
 ·intro i hi ih' a h1 ha;have hlt:(i:Int) < ((ts.length:Nat):Int):=by omega
  have h5:=js hi hl;rw [ji hi] at ha ⊢;simp only [jr] at ha ⊢;by_cases hc:(a:Int)<=most
  ·obtain ⟨r1,e1,b0,b1,b2,b3⟩:=ih ts[i] (jC _) (most - a) (by omega) (by omega);have hk0:ck (most - (a:Int))=some (vi (most - a)):=jE (by omega) (by omega);have hk:ck ((a:Int)+(r1:Int))=some (vi ((a+r1:Nat):Int)):=by rw [jE (by omega) (by omega)];rfl
   obtain ⟨r2,e2,c0,c1,c2,c3⟩:=ih' (a+r1) (by omega) (by omega);refine ⟨r2,?_,by omega,by omega,by omega,by omega⟩;rw [jsW];simp only [jd,hlt,ja hi,je,hc,hk0,e1,hk,h5,e2]
  ·refine ⟨a,?_,h1,by omega,by omega,by omega⟩;rw [jsW];simp only [jd,hlt,hc]
theorem jDw:∀t:T,Zc t->tsz t<=1048576-> ∀m:Int,-1048600<=m->m<=1048576-> ∃r:Nat,G 206 [tm t,vi m]=some (vi r,[])/\1<=r/\r<=nodes t/\((nodes t:Int)<=m->r=nodes t)/\(m < nodes t->m < r):=by
 refine T.ind λt ih hw hs m hm1 hm=> ?_;obtain ⟨w1,w2,w3⟩:=(kR t).1 hw;have w3:=(kW _).1 w3;have hn:=Jp t;rw [jT] at hn;obtain ⟨r,h1,h0,h2,h3,h4⟩:=jwx t.name m hm1 hm t.args w2 (λu hu m h1 h2=>ih u hu (w3 u hu) (by have:=y7 hu;rw [kH] at hs;omega) m h1 h2) 0 (ko _) 1 (kz _) (by simp;omega);simp only [kD,kU,jgl] at h1 h2 h3 h4;refine ⟨r,?_,h0,by rw [jT];exact h2,by rw [jT];exact h3,by rw [jT];exact h4⟩;rw [jLm];simp only [jd,h1]
theorem jsF (ts:List T) (hl:ts.length<=9223372036854775807) (hn:jr ts<=1048577) (ih:∀t∈ts,G 180 [tm t]=some (vi (J8 t:Nat),[])) :
  ∀i,i<=ts.length-> ∀a:Nat,a<=1048577->jmJ (vi a) (jH ts) (vi (ts.length:Nat)) (vi i)=some (vi ((max a (QE (ts.drop i))+1:Nat):Int),[]):=by
 refine upto ?_ ?_
 ·intro a ha;have hk:ck ((a:Int)+1)=some (vi ((a+1:Nat):Int)):=by rw [jE (by omega) (by omega)];rfl
  rw [jzF,kg];simp only [jd,QE,hk,Nat.max_zero]
 ·intro i hi ih' a ha;have hlt:(i:Int) < ((ts.length:Nat):Int):=by omega
  have h5:=js hi hl;have e1:=ih ts[i] (jC _);have hd:J8 ts[i]<=1048577:=K2 (jsE _) (K2 (qH (jC hi)) hn);have hmx:(if (a:Int) < ((J8 ts[i]:Nat):Int) then ((J8 ts[i]:Nat):Int) else (a:Int))=((max a (J8 ts[i]):Nat):Int):=by split<;>omega
  have ih':=ih' (max a (J8 ts[i])) (by omega);rw [jzF,ji hi];simp only [jd,hlt,ja hi,je,e1,hmx,h5,ih',QE,Nat.max_assoc]
theorem jyo:∀t:T,Zc t->tsz t<=1048576->G 180 [tm t]=some (vi (J8 t:Nat),[]):=by
 refine T.ind λt ih hw hs=> ?_;obtain ⟨w1,w2,w3⟩:=(kR t).1 hw;have w3:=(kW _).1 w3;have hn:=Jp t;rw [jT] at hn;have h1:=jsF t.args w2 (by omega) (λu hu=>ih u hu (w3 u hu) (by have:=y7 hu;rw [kH] at hs;omega)) 0 (ko _) 0 (by omega);simp only [kD,kU,Nat.zero_max] at h1;rw [jK0,ZZ,Nat.add_comm];simp only [jd,h1]
theorem jDz (a b:Nat):G 245 [vi a,vi b]=some (vi ((max a b:Nat):Int),[]):=by
 rw [jLM];by_cases h:(b:Int) < (a:Int)
 ·simp only [jd,h];rw [Nat.max_eq_left (by omega)]
 ·simp only [jd,h];rw [Nat.max_eq_right (by omega)]
theorem jnE (n:List UInt8) (ts:List T) (hl:ts.length<=9223372036854775807) (hn:jr ts<=1048577) (ih:∀t∈ts,G 207 [tm t]=some (vi (J8 t:Nat),[])) :
  ∀i,i<=ts.length-> ∀a:Nat,a<=1048577->jmS (vi a) (vi i) (sv n) (jH ts)=some (vi ((max a (QE (ts.drop i))+1:Nat):Int),[]):=by
 refine upto ?_ ?_
 ·intro a ha;have hk:ck ((a:Int)+1)=some (vi ((a+1:Nat):Int)):=by rw [jE (by omega) (by omega)];rfl
  rw [jzP,kg];simp only [jd,QE,hk,Nat.max_zero]
 ·intro i hi ih' a ha;have hlt:(i:Int) < ((ts.length:Nat):Int):=by omega
  have h5:=js hi hl;have e1:=ih ts[i] (jC _);have e2:=jDz a (J8 ts[i]);have hd:J8 ts[i]<=1048577:=K2 (jsE _) (K2 (qH (jC hi)) hn);have ih':=ih' (max a (J8 ts[i])) (by omega);rw [jzP,ji hi];simp only [jd,hlt,ja hi,je,e1,e2,h5,ih',QE,Nat.max_assoc]
theorem js0:∀t:T,Zc t->tsz t<=1048576->G 207 [tm t]=some (vi (J8 t:Nat),[]):=by
 refine T.ind λt ih hw hs=> ?_;obtain ⟨w1,w2,w3⟩:=(kR t).1 hw;have w3:=(kW _).1 w3;have hn:=Jp t;rw [jT] at hn;have h1:=jnE t.name t.args w2 (by omega) (λu hu=>ih u hu (w3 u hu) (by have:=y7 hu;rw [kH] at hs;omega)) 0 (ko _) 0 (by omega);simp only [kD,kU,Nat.zero_max] at h1;rw [jLn,ZZ,Nat.add_comm];simp only [jd,h1]
def jD (t:T):Bool:=decide (nodes t<=30) && decide (J8 t<=8)
def zl (t:T):Bool:=jD t && zS t
theorem jaG (t:T) (hw:Zc t) (hs:tsz t<=1048576):G 131 [tm t]=some (vb (jD t),[]):=by
 obtain ⟨r,h1,h2,h3,h4⟩:=size_eq t hw hs;have hd:=jyo t hw hs;rw [jKu];by_cases h:nodes t<=30
 ·have:(r:Int)<=30:=by have:=h3 h;omega
  have e:decide (((J8 t:Nat):Int)<=8)=decide (J8 t<=8):=by congr 1;exact propext (by omega)
  simp only [jd,h1,hd,this,jD,h,e,jR]
 ·have:¬(r:Int)<=30:=by have:=h4 (by omega);omega
  simp only [jd,h1,this,jD,h,jK]
theorem jlg (t:T) (hw:Zc t) (hs:tsz t<=1048576):G 160 [tm t]=some (vb (jD t),[]):=by
 obtain ⟨r,h1,h0,h2,h3,h4⟩:=jDw t hw hs 30 (by decide) (by decide);have hd:=js0 t hw hs;rw [jKP];by_cases h:nodes t<=30
 ·have:(r:Int)<=30:=by have:=h3 (by omega);omega
  have e:decide (((J8 t:Nat):Int)<=8)=decide (J8 t<=8):=by congr 1;exact propext (by omega)
  simp only [jd,h1,hd,this,jD,h,e,jR]
 ·have:¬(r:Int)<=30:=by have:=h4 (by omega);omega
  simp only [jd,h1,this,jD,h,jK]
theorem jhh {f:FuncId} {caps:List A} (hsig:K.pureF f=true) (p:T->Bool) (ts:List T) (hl:ts.length<=9223372036854775807) (h:∀t∈ts,G f (tm t::caps)=some (vb (p t),[])) :
  ∃r:Int,G 175 [jH ts,.fn f caps]=some (vi r,[])/\decide (0<=r)=ts.any p:=by
 have key:=upto (P:=λi=>∃r:Int,jmG (jH ts) (.fn f caps) (vi (ts.length:Nat)) (vi i)=some (vi r,[])/\decide (0<=r)=(ts.drop i).any p) (n:=ts.length) ?_ ?_ 0 (ko _)
 ·obtain ⟨r,h1,h2⟩:=key;simp only [kU,kD] at h1 h2;refine ⟨r,?_,h2⟩;rw [jKX];simp only [jd,h1]
 ·refine ⟨-1,?_,by simp⟩;rw [jzE];simp only [jd]
 ·intro i hi ih;obtain ⟨r,h1,h2⟩:=ih;have hlt:(i:Int) < ((ts.length:Nat):Int):=by omega
  have h5:=js hi hl;have e1:=h ts[i] (jC _);rw [jzE,ji hi,List.any_cons];cases hp:p ts[i]<;>rw [hp] at e1
  ·refine ⟨r,?_,by rw [h2,zF]⟩;simp only [jd,hlt,ja hi,je,qP hsig,K5,Ju,e1,h5,h1]
  ·refine ⟨i,?_,by simp⟩;simp only [jd,hlt,ja hi,je,qP hsig,K5,Ju,e1]
theorem jbI {f:FuncId} {caps:List A} (hsig:K.pureF f=true) (p:T->Bool) (ts:List T) (hl:ts.length<=9223372036854775807) (h:∀t∈ts,G f (tm t::caps)=some (vb (p t),[])) :
  G 126 [jH ts,.fn f caps]=some (vb (ts.any p),[]):=by
 obtain ⟨r,h1,h2⟩:=jhh hsig p ts hl h;rw [jKq];simp only [jd,h1,h2]
theorem jgy (p:T->Bool) (ts:List T):(ts.any λt=> !p t)=!ts.all p:=by
 induction ts with
 | nil=>rfl
 | cons t ts ih=>rw [List.any_cons,yU,ih];cases p t<;>rfl
theorem jbO:∀t:T,Zc t->G 198 [tm t]=some (vb (zS t),[]):=by
 refine T.ind λt ih hw=> ?_;obtain ⟨w1,w2,w3⟩:=(kR t).1 hw;have w3:=(kW _).1 w3;have e1:=jdl t.name w1;have e2:=jbR t.name w1;have e3:=jbI (f:=235) (caps:=[]) rfl (λu=> !zS u) t.args w2 (λu hu=>by
  have:=ih u hu (w3 u hu);rw [jLH];simp only [jd,this])
 rw [jgy,<-qU] at e3;rw [jLg,yp];have e4:decide (((t.args.length:Nat):Int)=0)=t.args.isEmpty:=by cases t.args<;>simp;omega
 have e5:decide (((t.args.length:Nat):Int)<=4)=decide (t.args.length<=4):=by congr 1;exact propext (by omega)
 cases hv:jp t.name<;>rw [hv] at e1
 ·cases hy:y5 t.name<;>rw [hy] at e2
  ·simp only [jd,e1,e2,jK]
  ·cases ha:decide (t.args.length<=4)<;>rw [ha] at e5
   ·simp only [jd,e1,e2,e5,jK,jR]
   ·simp only [jd,e1,e2,e5,e3,jR,Bool.not_not]
 ·simp only [jd,e1,e4]
theorem jdI:∀t:T,Zc t->G 161 [tm t]=some (vb (zS t),[]):=by
 refine T.ind λt ih hw=> ?_;obtain ⟨w1,w2,w3⟩:=(kR t).1 hw;have w3:=(kW _).1 w3;have e1:=zK t.name w1;have e2:=Qq t.name w1;have key:=upto (P:=λi=>jmE (vi i) (sv t.name) (jH t.args)=some (vb (jc9 (t.args.drop i)),[])) (n:=t.args.length) ?_ ?_ 0 (ko _)
 ·simp only [kU,kD] at key;rw [jKQ,yp];have e4:decide (((t.args.length:Nat):Int)=0)=t.args.isEmpty:=by cases t.args<;>simp;omega
  cases hv:jp t.name<;>rw [hv] at e1
  ·cases hy:y5 t.name<;>rw [hy] at e2
   ·simp only [jd,e1,e2,jK]
   ·by_cases ha:4 < ((t.args.length:Nat):Int)
    ·have:¬t.args.length<=4:=by omega
     simp only [jd,e1,e2,ha,this,jK,zr]
    ·have:t.args.length<=4:=by omega
     simp only [jd,e1,e2,ha,this,key,jR]
  ·simp only [jd,e1,e4]
 ·rw [jzx,kg];simp only [jd,jc9]
 ·intro i hi ih';have hlt:(i:Int) < ((t.args.length:Nat):Int):=by omega
  have h5:=js hi w2;have e3:=ih t.args[i] (jC _) (w3 _ (jC _));rw [jzx,ji hi,jc9];cases hp:zS t.args[i]<;>rw [hp] at e3
  ·simp only [jd,hlt,ja hi,je,e3,jK]
  ·simp only [jd,hlt,ja hi,je,e3,h5,ih',jR]
theorem jbS (t:T) (hw:Zc t) (hs:tsz t<=1048576):G 200 [tm t]=some (vb (zl t),[]):=by
 have e1:=jaG t hw hs;have e2:=jbO t hw;rw [jLi,zl];cases h:jD t<;>rw [h] at e1<;>simp only [jd,e1,e2,jR,jK]
theorem Zp (t:T) (hw:Zc t) (hs:tsz t<=1048576):G 149 [tm t]=some (vb (zl t),[]):=by
 have e1:=jlg t hw hs;have e2:=jdI t hw;rw [jKI,zl];cases h:jD t<;>rw [h] at e1<;>simp only [jd,e1,e2,jR,jK]
theorem Ki {xs:List Int} {i:Nat} (h:i < xs.length):jl 1 (ints xs) (vi i)=some (.elt (ci xs[i]) 0):=ja h
def jv0 (o:Ord') (i:Nat):Bool:=y5 (o.syms.getD i []) && (!(o.syms.take i).contains (o.syms.getD i []) && qx o.var 100 (o.ws.getD i 0))
def qk (o:Ord'):Bool:=qx 1 12 (o.syms.length:Nat) && (decide (o.ws.length=o.syms.length) && (qx 1 100 o.var && (List.range o.syms.length).all (jv0 o)))
theorem jtl {n i:Nat} (h:i < n):(List.range n).drop i=i::(List.range n).drop (i+1):=by
 have h':i < (List.range n).length:=by simpa using h
 rw [jtT h',List.getElem_range]
theorem jp7 (o:Ord') (hw:owf o) (hl:o.ws.length=o.syms.length):∀i,i<=o.syms.length->jmO (vi i) (strs o.syms) (ints o.ws) (vi o.var)=some (vb (((List.range o.syms.length).drop i).all (jv0 o)),[]):=by
 refine upto ?_ ?_
 ·rw [jzK,jmi (by simp)];simp only [jd]
 ·intro i hi ih;have hlt:(i:Int) < ((o.syms.length:Nat):Int):=by omega
  have hi2:i < o.ws.length:=by omega
  have h5:=js hi hw.1.2;have hs:=hw.1.1 o.syms[i] (jC _);have e1:=Qq o.syms[i] hs;have hsl:yq 1 (strs o.syms) none (some (vi i))=some (strs (o.syms.take i)):=by rw [KD (by simp;omega),<-jfr]
  have e2:=jnF (o.syms.take i) o.syms[i] (by rw [Ky];exact K2 (Nat.min_le_right _ _) hw.1.2)
  have e3:=yx o.ws[i] o.var 100;have hc:jv0 o i=(y5 o.syms[i] && (!(o.syms.take i).contains o.syms[i] && qx o.var 100 o.ws[i])):=by simp [jv0,zY,hi,hi2]
  rw [jzK,jtl hi,yU,hc];cases h1:y5 o.syms[i]<;>rw [h1] at e1
  ·simp only [jd,hlt,ja hi,e1,jK]
  ·cases h2:(o.syms.take i).contains o.syms[i]<;>rw [h2] at e2
   ·cases h3:qx o.var 100 o.ws[i]<;>rw [h3] at e3
    ·simp only [jd,hlt,ja hi,Ki hi2,e1,hsl,e2,e3,jK,jR]
    ·simp only [jd,hlt,ja hi,Ki hi2,e1,hsl,e2,e3,h5,ih,jR]
   ·simp only [jd,hlt,ja hi,e1,hsl,e2,jK,jR]
theorem jwq (o:Ord') (hw:owf o):G 188 [od o]=some (vb (qk o),[]):=by
 have e1:=yx (o.syms.length:Nat) 1 12;have e2:=yx o.var 1 100;rw [jK7,qk];cases h1:qx 1 12 (o.syms.length:Nat)<;>rw [h1] at e1
 ·simp only [jd,e1,jK]
 ·by_cases h2:o.ws.length=o.syms.length
  ·have h2':((o.ws.length:Nat):Int)=((o.syms.length:Nat):Int):=by rw [h2]
   have key:=jp7 o hw h2 0 (ko _);simp only [kU,kD] at key;cases h3:qx 1 100 o.var<;>rw [h3] at e2
   ·simp only [jd,e1,h2',e2,jK,zr]
   ·simp only [jd,e1,h2',h2,e2,key,jR]
  ·have h2':¬((o.ws.length:Nat):Int)=((o.syms.length:Nat):Int):=by omega
   simp only [jd,e1,h2',h2,jK,jR]
mutual
def K9 (l:List (List UInt8)):T->Bool
 | .mk n us=>(jp n || l.contains n) && YK l us
def YK (l:List (List UInt8)):List T->Bool
 | []=>true
 | t::ts=>K9 l t && YK l ts
end
theorem Kn (l:List (List UInt8)) (t:T):K9 l t=((jp t.name || l.contains t.name) && YK l t.args):=by cases t;rfl
theorem QZ (l:List (List UInt8)):∀ts,YK l ts=ts.all (K9 l)
 | []=>rfl
 | t::ts=>by rw [YK,QZ l ts,yU]
theorem zj {t:T} (h:zS t=true):∀u∈t.args,zS u=true:=by
 rw [yp] at h;intro u hu;split at h
 ·rw [jcr.1 h] at hu;cases hu
 ·simp only [jy] at h;rw [qU] at h;exact qn.1 h.2.2 u hu
theorem jqo {t:T} (h:zS t=true):∃c r,t.name=c::r/\jp t.name=upc c/\(upc c=false->y5 t.name=true):=by
 rw [yp] at h;cases hn:t.name with
 | nil=>rw [hn] at h;simp [jp,y5] at h
 | cons c r=>
  refine ⟨c,r,rfl,?_,?_⟩
  ·rw [hn] at h;cases hu:upc c with
   | false=>simp [jp,hu]
   | true=>
    cases hv:jp (c::r) with
    | true=>rfl
    | false=>
     rw [hv] at h;have:jc7 c=false:=by
      simp only [upc,qx,jc7,jy,kM] at hu ⊢;have:¬(97<=(c.toNat:Int)):=by omega
      simp [this]
     simp [y5,this] at h
  ·intro hu;rw [hn] at h;have:jp (c::r)=false:=by simp [jp,hu]
   rw [this] at h;simp at h;exact h.1
theorem YN (t:T) (h:zS t=true):G 122 [tm t]=some (vb (jp t.name),[]):=by
 obtain ⟨c,r,hn,hv,_⟩:=jqo h;have e1:=jdF c;rw [<-hv] at e1;rw [jIj];have hx:ye (sv t.name) (vi 0)=some (vy (c.toNat:Int)):=by rw [hn];exact qW
 simp only [jd,hx,e1]
theorem jp6 (o:Ord') (ho:o.syms.length<=9223372036854775807):∀t:T,Zc t->G 224 [od o,tm t]=some (vb (K9 o.syms t),[]):=by
 refine T.ind λt ih hw=> ?_;obtain ⟨w1,w2,w3⟩:=(kR t).1 hw;have w3:=(kW _).1 w3;have e1:=zK t.name w1;have e2:=jhE o t.name ho;have e2':=jv9 t.name o.syms;have key:=upto (P:=λi=>jmU (vi i) (strs o.syms) (ints o.ws) (vi o.var) (sv t.name) (jH t.args)=some (vb (YK o.syms (t.args.drop i)),[])) (n:=t.args.length) ?_ ?_ 0 (ko _)
 ·simp only [kU,kD] at key;rw [jLw,Kn];cases hv:jp t.name<;>rw [hv] at e1
  ·cases hc:o.syms.contains t.name<;>rw [hc] at e2'
   ·simp only [jd,e1,e2,e2',zF,jK]
   ·simp only [jd,e1,e2,e2',key,zF,jR]
  ·simp only [jd,e1,key,Jl,jR]
 ·rw [jzR,kg];simp only [jd,YK]
 ·intro i hi ih';have hlt:(i:Int) < ((t.args.length:Nat):Int):=by omega
  have h5:=js hi w2;have e3:=ih t.args[i] (jC _) (w3 _ (jC _));rw [jzR,ji hi,YK];cases hp:K9 o.syms t.args[i]<;>rw [hp] at e3
  ·simp only [jd,hlt,ja hi,je,e3,jK]
  ·simp only [jd,hlt,ja hi,je,e3,h5,ih',jR]
def good (o:Ord') (t:T):Bool:=zl t && K9 o.syms t
theorem jlj (o:Ord') (t:T) (ho:o.syms.length<=9223372036854775807) (hw:Zc t) (hs:tsz t<=1048576):G 189 [od o,tm t]=some (vb (good o t),[]):=by
 have e1:=Zp t hw hs;have e2:=jp6 o ho t hw;rw [jK8,good];cases h:zl t<;>rw [h] at e1<;>simp only [jd,e1,e2,jR,jK]
def jhm (o:Ord') (n:List UInt8):Int:=match qQ n o.syms with|some k=>o.ws.getD k 0|none=>0
mutual
def wt (o:Ord'):T->Int
 | .mk n us=>(if jp n then o.var else jhm o n)+wtL o us
def wtL (o:Ord'):List T->Int
 | []=>0
 | t::ts=>wt o t+wtL o ts
end
theorem jrJ (o:Ord') (t:T):wt o t=(if jp t.name then o.var else jhm o t.name)+wtL o t.args:=by cases t;rfl
theorem Qz {o:Ord'} (h:qk o=true):o.ws.length=o.syms.length/\1<=o.var/\o.var<=100/\ ∀i,i < o.syms.length->o.var<=o.ws.getD i 0/\o.ws.getD i 0<=100:=by
 simp only [qk,jy,kM,qx] at h;obtain ⟨_,h2,⟨h3,h4⟩,h5⟩:=h;refine ⟨h2,h3,h4,λi hi=> ?_⟩;have:=qn.1 h5 i (by simpa using hi);simp only [jv0,jy,qx,kM] at this;exact this.2.2
theorem jeC {o:Ord'} {n:List UInt8} (h:o.syms.contains n=true):∃k,qQ n o.syms=some k/\k < o.syms.length:=by
 rw [<-Qm] at h;obtain ⟨k,hk⟩:=Option.isSome_iff_exists.1 h;exact ⟨k,hk,(jhw hk).1⟩
theorem jog {o:Ord'} (hv:qk o=true) {n:List UInt8} (h:o.syms.contains n=true):jl 1 (ints o.ws) (vi (yE 0 (qQ n o.syms)))=some (.elt (ci (jhm o n)) 0)/\1<=jhm o n/\jhm o n<=100:=by
 obtain ⟨k,hk,hlt⟩:=jeC h;obtain ⟨h1,h2,h3,h4⟩:=Qz hv;have h5:=h4 k hlt;have hlt':k < o.ws.length:=by omega
 have e:jhm o n=o.ws[k]:=by simp [jhm,hk,zY,hlt']
 rw [hk];have e2:yE 0 (some k)=((k:Nat):Int):=by simp [yE]
 rw [e2,Ki hlt',e];have e3:o.ws.getD k 0=o.ws[k]:=by simp [zY,hlt']
 rw [e3] at h5;exact ⟨rfl,by omega,by omega⟩
theorem jcq {o:Ord'} (hv:qk o=true):∀t:T,K9 o.syms t=true->1<=wt o t/\wt o t<=100 * nodes t:=by
 refine T.ind λt ih hc=> ?_;rw [Kn,jy] at hc;obtain ⟨h1,h2,h3,_⟩:=Qz hv;have hL:∀ts:List T,(∀u∈ts,1<=wt o u/\wt o u<=100 * nodes u)->0<=wtL o ts/\wtL o ts<=100 * jr ts:=by
  intro ts;induction ts with
  | nil=>intro _;simp [wtL,jr]
  | cons u us ih=>
   intro h;have a:=h u (by simp);have b:=ih λv hv=>h v (by simp [hv]);simp only [wtL,jr];omega
 have hb:=hL t.args λu hu=>ih u hu (by
  have:=hc.2;rw [QZ] at this;exact qn.1 this u hu)
 rw [jrJ,jT];cases hn:jp t.name with
 | true=>simp only [Jw];omega
 | false=>
  have hcn:=hc.1;rw [hn,zF] at hcn;have:=(jog hv hcn).2;simp only [Zi,K6];omega
theorem jaj {o:Ord'} (hv:qk o=true) {ts:List T} (hc:YK o.syms ts=true):0<=wtL o ts/\wtL o ts<=100 * jr ts:=by
 induction ts with
 | nil=>simp [wtL,jr]
 | cons u us ih=>
  simp only [YK,jy] at hc;have a:=jcq hv u hc.1;have b:=ih hc.2;simp only [wtL,jr];omega
theorem jit {l:List (List UInt8)} {ts:List T} (h:YK l ts=true) (i:Nat):YK l (ts.drop i)=true:=by
 rw [QZ] at h ⊢;exact qn.2 λu hu=>qn.1 h u (jd4 hu)
theorem KA {l:List (List UInt8)} {ts:List T} (h:YK l ts=true) {u:T} (hu:u∈ts):K9 l u=true:=by
 rw [QZ] at h;exact qn.1 h u hu
theorem jrH {o:Ord'} (hv:qk o=true) (ts:List T) (hl:ts.length<=9223372036854775807) (hn:jr ts<=1048577) (hc:YK o.syms ts=true) (ih:∀t∈ts,G 264 [od o,tm t]=some (vi (wt o t),[])) :
  ∀i,i<=ts.length-> ∀a:Int,0<=a->a+wtL o (ts.drop i)<=200000000->jmY (vi a) (jH ts) (vi (ts.length:Nat)) (vi i) (strs o.syms) (ints o.ws) (vi o.var)=some (vi (a+wtL o (ts.drop i)),[]):=by
 refine upto ?_ ?_
 ·intro a ha hb;rw [jz0,kg];simp only [jd,wtL,Int.add_zero]
 ·intro i hi ih' a ha hb;have hlt:(i:Int) < ((ts.length:Nat):Int):=by omega
  have h5:=js hi hl;have e1:=ih ts[i] (jC _);have b1:=jcq hv ts[i] (KA hc (jC _));have b2:=jaj hv (jit hc (i+1));rw [ji hi] at hb ⊢;simp only [wtL] at hb ⊢;have hk:ck (a+wt o ts[i])=some (vi (a+wt o ts[i])):=jE (by omega) (by omega);have ih':=ih' (a+wt o ts[i]) (by omega) (by omega);rw [jz0];simp only [jd,hlt,ja hi,je,e1,hk,h5,ih',Int.add_assoc]
theorem jmd {o:Ord'} (hv:qk o=true) (ho:o.syms.length<=9223372036854775807):∀t:T,Zc t->tsz t<=1048576->zS t=true->K9 o.syms t=true->G 264 [od o,tm t]=some (vi (wt o t),[]):=by
 refine T.ind λt ih hw hs hk hc=> ?_;obtain ⟨w1,w2,w3⟩:=(kR t).1 hw;have w3:=(kW _).1 w3;have e1:=YN t hk;have hb:=jcq hv t hc;have hn:=Jp t;rw [jT] at hn;rw [jT] at hb;have hks:=zj hk;rw [yp] at hk;rw [Kn,jy] at hc;rw [jrJ] at hb ⊢;rw [jLS];cases hvn:jp t.name<;>rw [hvn] at e1 hc hk hb
 ·have hcn:=hc.1;rw [zF] at hcn;obtain ⟨e2,e3,e4⟩:=jog hv hcn;have e5:=jaF o.syms t.name ho;have hbl:=jaj hv hc.2;have key:=jrH hv t.args w2 (by omega) hc.2 (λu hu=>ih u hu (w3 u hu) (by have:=y7 hu;rw [kH] at hs;omega) (hks u hu) (KA hc.2 hu)) 0 (ko _) (jhm o t.name) (by omega) (by simp only [kD];omega);simp only [kU,kD] at key;simp only [jd,e1,e5,e2,key]
 ·simp only [Jw] at hk;have:t.args = []:=jcr.1 hk;rw [this];simp only [jd,e1,wtL,Int.add_zero]
theorem jkB {o:Ord'} (hv:qk o=true) (n:List UInt8) (ts:List T) (hl:ts.length<=9223372036854775807) (hc:YK o.syms ts=true) (ih:∀t∈ts,G 226 [od o,tm t]=some (vi (wt o t),[])) :
  ∀i,i<=ts.length-> ∀a:Int,0<=a->a+wtL o (ts.drop i)<=200000000->jib (vi a) (vi i) (strs o.syms) (ints o.ws) (vi o.var) (sv n) (jH ts)=some (vi (a+wtL o (ts.drop i)),[]):=by
 refine upto ?_ ?_
 ·intro a ha hb;rw [jzT,kg];simp only [jd,wtL,Int.add_zero]
 ·intro i hi ih' a ha hb;have hlt:(i:Int) < ((ts.length:Nat):Int):=by omega
  have h5:=js hi hl;have e1:=ih ts[i] (jC _);have b1:=jcq hv ts[i] (KA hc (jC _));have b2:=jaj hv (jit hc (i+1));rw [ji hi] at hb ⊢;simp only [wtL] at hb ⊢;have hk:ck (a+wt o ts[i])=some (vi (a+wt o ts[i])):=jE (by omega) (by omega);have ih':=ih' (a+wt o ts[i]) (by omega) (by omega);rw [jzT];simp only [jd,hlt,ja hi,je,e1,hk,h5,ih',Int.add_assoc]
theorem jgM {o:Ord'} (hv:qk o=true) (ho:o.syms.length<=9223372036854775807):∀t:T,Zc t->tsz t<=1048576->K9 o.syms t=true->G 226 [od o,tm t]=some (vi (wt o t),[]):=by
 refine T.ind λt ih hw hs hc=> ?_;obtain ⟨w1,w2,w3⟩:=(kR t).1 hw;have w3:=(kW _).1 w3;have e1:=zK t.name w1;have hb:=jcq hv t hc;have hn:=Jp t;rw [jT] at hn;rw [jT] at hb;obtain ⟨_,v2,v3,_⟩:=Qz hv;rw [Kn,jy] at hc;rw [jrJ] at hb ⊢;rw [jLy];have hbl:=jaj hv hc.2;have key:=λa h1 h2=>jkB hv t.name t.args w2 hc.2 (λu hu=>ih u hu (w3 u hu) (by have:=y7 hu;rw [kH] at hs;omega) (KA hc.2 hu)) 0 (ko _) a h1 h2;simp only [kU,kD] at key;cases hvn:jp t.name<;>rw [hvn] at e1 hc hb
 ·have hcn:=hc.1;rw [zF] at hcn;obtain ⟨e2,e3,e4⟩:=jog hv hcn;have e5:=jhE o t.name ho;have key:=key (jhm o t.name) (by omega) (by omega);simp only [jd,e1,e5,e2,key]
 ·have key:=key o.var (by omega) (by omega);simp only [jd,e1,key]
theorem jk9 {o:Ord'} {t:T} (h:good o t=true):zS t=true/\K9 o.syms t=true/\nodes t<=30:=by
 simp only [good,zl,jD,jy,kM] at h;exact ⟨h.1.2,h.2,h.1.1.1⟩
def jHb (o:Ord') (t:T):A:=if qk o && good o t then .tup [vi (wt o t),vb true] else .tup [vi 0,vb false]
theorem je0 (a b:A):ky 2 (.elt [a,b] 0)=some (.agg [a,b]):=rfl
theorem je1 (a b c:A):ky 3 (.elt [a,b,c] 0)=some (.agg [a,b,c]):=rfl
noncomputable def dq {α:Type} (a b:α):Bool:=@decide (a=b) (Classical.propDecidable _)
theorem qz {α:Type} {a b:α} :dq a b=true↔a=b:=by unfold dq;exact @joz _ (Classical.propDecidable _)
theorem jiu {α:Type} {a b:α} :dq a b=false↔ ¬a=b:=by unfold dq;exact @jcx _ (Classical.propDecidable _)
theorem jcO {α:Type} (a:α):dq a a=true:=qz.2 rfl
theorem jhv {α:Type} (a b:α) (l r:List α):dq (a::l) (b::r)=(dq a b && dq l r):=by
 rw [Bool.eq_iff_iff,jy,qz,qz,qz,Qd]
theorem jGk (s t:T):dq s t=(decide (s.name=t.name) && dq s.args t.args):=by
 cases s with
 | mk n us=>cases t with
  | mk m vs=>rw [Bool.eq_iff_iff,jy,qz,qz,joz,T.mk.injEq];rfl
theorem jnj {α:Type} {a b:List α} (h:¬a.length=b.length):dq a b=false:=jiu.2 λe=>h (by rw [e])
theorem jhf (ts us:List T) (hl:ts.length<=9223372036854775807) (hlen:ts.length=us.length) (ih:∀t∈ts,∀u∈us,G 91 [tm t,tm u]=some (vb (dq t u),[])) :
  ∀i,i<=ts.length->jmx (jH us) (.fn 91 []) (jH ts) (vi (ts.length:Nat)) (vi i)=some (vb (dq (ts.drop i) (us.drop i)),[]):=by
 refine upto ?_ ?_
 ·rw [jzh,kg,hlen,kg,jcO];simp only [jd]
 ·intro i hi ih';have hlt:(i:Int) < ((ts.length:Nat):Int):=by omega
  have hi2:i < us.length:=by omega
  have h5:=js hi hl;have e1:=ih ts[i] (jC _) us[i] (jC _);rw [jzh,ji hi,ji hi2,jhv];cases hp:dq ts[i] us[i]<;>rw [hp] at e1
  ·simp only [jd,hlt,ja hi,ja hi2,je,qP (f:=91) rfl,qv,e1,jK]
  ·simp only [jd,hlt,ja hi,ja hi2,je,qP (f:=91) rfl,qv,e1,h5,ih',jR]
theorem ya:∀s:T,Zc s-> ∀t:T,Zc t->G 91 [tm s,tm t]=some (vb (dq s t),[]):=by
 refine T.ind λs ih hw t hw'=> ?_;obtain ⟨w1,w2,w3⟩:=(kR s).1 hw;have w3:=(kW _).1 w3;obtain ⟨v1,v2,v3⟩:=(kR t).1 hw';have v3:=(kW _).1 v3;rw [g91,jGk];by_cases hn:s.name=t.name
 ·have e:G 134 [jH s.args,jH t.args,.fn 91 []]=some (vb (dq s.args t.args),[]):=by
   rw [jKx];by_cases hlen:s.args.length=t.args.length
   ·have key:=jhf s.args t.args w2 hlen (λa ha b hb=>ih a ha (w3 a ha) b (v3 b hb)) 0 (ko _);simp only [kU,kD] at key;rw [hlen] at key;simp only [jd,hlen,key]
   ·have hlen':¬((s.args.length:Nat):Int)=((t.args.length:Nat):Int):=by omega
    simp only [jd,hlen',jnj hlen]
  simp only [jd,hn,e,jR]
 ·simp only [jd,hn,jK]
theorem jp3 (n m:List UInt8) (ts us:List T) (hl:ts.length<=9223372036854775807) (hlen:ts.length=us.length) (ih:∀t∈ts,∀u∈us,G 114 [tm t,tm u]=some (vb (dq t u),[])) :
  ∀i,i<=ts.length->jmo (vi i) (sv n) (jH ts) (sv m) (jH us)=some (vb (dq (ts.drop i) (us.drop i)),[]):=by
 refine upto ?_ ?_
 ·rw [jy5,kg,hlen,kg,jcO];simp only [jd,hlen]
 ·intro i hi ih';have hlt:(i:Int) < ((ts.length:Nat):Int):=by omega
  have hi2:i < us.length:=by omega
  have h5:=js hi hl;have e1:=ih ts[i] (jC _) us[i] (jC _);rw [jy5,ji hi,ji hi2,jhv];cases hp:dq ts[i] us[i]<;>rw [hp] at e1
  ·simp only [jd,hlt,ja hi,ja hi2,je,e1,jK]
  ·simp only [jd,hlt,ja hi,ja hi2,je,e1,h5,ih',jR]
theorem Jx:∀s:T,Zc s-> ∀t:T,Zc t->G 114 [tm s,tm t]=some (vb (dq s t),[]):=by
 refine T.ind λs ih hw t hw'=> ?_;obtain ⟨w1,w2,w3⟩:=(kR s).1 hw;have w3:=(kW _).1 w3;obtain ⟨v1,v2,v3⟩:=(kR t).1 hw';have v3:=(kW _).1 v3;rw [jKh,jGk];by_cases hn:s.name=t.name
 ·by_cases hlen:s.args.length=t.args.length
  ·have key:=jp3 t.name t.name s.args t.args w2 hlen (λa ha b hb=>ih a ha (w3 a ha) b (v3 b hb)) 0 (ko _);simp only [kU,kD] at key;simp only [jd,hn,hlen,key,jR]
  ·have hlen':¬((s.args.length:Nat):Int)=((t.args.length:Nat):Int):=by omega
   simp only [jd,hn,hlen',jnj hlen,zr]
 ·simp only [jd,hn,jK]
def rk (o:Ord') (t:T):Int:=yE 0 (qQ t.name o.syms)
def jbi (a b:Int):Int:=if a < b then -1 else if b < a then 1 else 0
def yt (o:Ord') (s t:T):Int:=if rk o s=rk o t then jbi (s.args.length:Nat) (t.args.length:Nat) else jbi (rk o s) (rk o t)
theorem jDV (o:Ord') (s t:T) (ho:o.syms.length<=9223372036854775807):G 227 [od o,tm s,tm t]=some (vi (yt o s t),[]):=by
 have e1:=jhE o s.name ho;have e2:=jhE o t.name ho;rw [jLz];by_cases h:rk o s=rk o t
 ·have h':yE 0 (qQ s.name o.syms)=yE 0 (qQ t.name o.syms):=h;by_cases h1:((s.args.length:Nat):Int) < ((t.args.length:Nat):Int)
  ·simp only [jd,e1,e2,h',yt,rk,jbi,h1]
  ·by_cases h2:((t.args.length:Nat):Int) < ((s.args.length:Nat):Int)
   ·simp only [jd,e1,e2,h',yt,rk,jbi,h1,h2]
   ·simp only [jd,e1,e2,h',yt,rk,jbi,h1,h2]
 ·have h':¬yE 0 (qQ s.name o.syms)=yE 0 (qQ t.name o.syms):=h;by_cases h1:yE 0 (qQ s.name o.syms) < yE 0 (qQ t.name o.syms)
  ·simp only [jd,e1,e2,h',yt,rk,jbi,h1]
  ·by_cases h2:yE 0 (qQ t.name o.syms) < yE 0 (qQ s.name o.syms)
   ·simp only [jd,e1,e2,h',yt,rk,jbi,h1,h2]
   ·simp only [jd,e1,e2,h',yt,rk,jbi,h1,h2]
theorem jqK (o:Ord') (s t:T) (ho:o.syms.length<=9223372036854775807):G 265 [od o,tm s,tm t]=some (vb (decide (yt o s t < 0)),[]):=by
 have e1:=jaF o.syms s.name ho;have e2:=jaF o.syms t.name ho;rw [jLT];by_cases h:rk o s=rk o t
 ·have h':yE 0 (qQ s.name o.syms)=yE 0 (qQ t.name o.syms):=h;by_cases h1:((s.args.length:Nat):Int) < ((t.args.length:Nat):Int)
  ·simp only [jd,e1,e2,h',yt,rk,jbi,h1]
  ·by_cases h2:((t.args.length:Nat):Int) < ((s.args.length:Nat):Int)
   ·simp only [jd,e1,e2,h',yt,rk,jbi,h1,h2];rfl
   ·simp only [jd,e1,e2,h',yt,rk,jbi,h1,h2]
 ·have h':¬yE 0 (qQ s.name o.syms)=yE 0 (qQ t.name o.syms):=h;by_cases h1:yE 0 (qQ s.name o.syms) < yE 0 (qQ t.name o.syms)
  ·simp only [jd,e1,e2,h',yt,rk,jbi,h1]
  ·have h2:yE 0 (qQ t.name o.syms) < yE 0 (qQ s.name o.syms):=by omega
   simp only [jd,e1,e2,h',yt,rk,jbi,h1,h2];rfl
noncomputable def fd:List T->List T->Option (T × T)
 | a::l,b::r=>if dq a b=true then fd l r else some (a,b)
 | _,_=>none
theorem jnn:∀ {l r:List T} {a b:T},fd l r=some (a,b)->a∈l/\b∈r
 | [],_,_,_,h=>by simp [fd] at h
 | _::_,[],_,_,h=>by simp [fd] at h
 | x::l,y::r,a,b,h=>by
  simp only [fd] at h;split at h
  ·have:=jnn h;exact ⟨by simp [this.1],by simp [this.2]⟩
  ·cases h;exact ⟨by simp,by simp⟩
theorem jyJ (s t:T) (hw:Zc s) (hw':Zc t) (hlen:s.args.length=t.args.length) :
  (fd s.args t.args=none/\G 228 [tm s,tm t]=some (vi (-1),[]))\/ ∃(k:Nat) (h1:k < s.args.length) (h2:k < t.args.length),fd s.args t.args=some (s.args[k],t.args[k])/\G 228 [tm s,tm t]=some (vi k,[]):=by
 obtain ⟨w1,w2,w3⟩:=(kR s).1 hw;have w3:=(kW _).1 w3;obtain ⟨v1,v2,v3⟩:=(kR t).1 hw';have v3:=(kW _).1 v3;have key:=upto (P:=λi=>(fd (s.args.drop i) (t.args.drop i)=none/\jic (vi i) (sv s.name) (jH s.args) (sv t.name) (jH t.args)=some (vi (-1),[]))\/ ∃(k:Nat) (h1:k < s.args.length) (h2:k < t.args.length),fd (s.args.drop i) (t.args.drop i)=some (s.args[k],t.args[k])/\jic (vi i) (sv s.name) (jH s.args) (sv t.name) (jH t.args)=some (vi k,[])) (n:=s.args.length) ?_ ?_ 0 (ko _)
 ·simp only [kU,kD] at key;rw [jLA];rcases key with ⟨h1,h2⟩|⟨k,h1,h2,h3,h4⟩
  ·exact Or.inl ⟨h1,by simp only [jd,h2]⟩
  ·exact Or.inr ⟨k,h1,h2,h3,by simp only [jd,h4]⟩
 ·left;rw [jzU,kg];refine ⟨by simp [fd],?_⟩;simp only [jd]
 ·intro i hi ih;have hlt:(i:Int) < ((s.args.length:Nat):Int):=by omega
  have hi2:i < t.args.length:=by omega
  have h5:=js hi w2;have e1:=Jx s.args[i] (w3 _ (jC _)) t.args[i] (v3 _ (jC _));rw [jzU,ji hi,ji hi2,fd];cases hp:dq s.args[i] t.args[i]<;>rw [hp] at e1
  ·refine Or.inr ⟨i,hi,hi2,by simp,?_⟩;simp only [jd,hlt,ja hi,ja hi2,je,e1]
  ·simp only [jd,hlt,ja hi,ja hi2,je,e1,h5];exact ih
def zT:A:= .agg [sv [],.sl 2 []]
noncomputable def fdR (s t:T):A:=match fd s.args t.args with|some (a,b)=> .tup [tm a,tm b,vb true]|none=> .tup [zT,zT,vb false]
theorem jeI (s t:T) (hw:Zc s) (hw':Zc t) (hn:s.name=t.name) (hlen:s.args.length=t.args.length):G 266 [tm s,tm t]=some (fdR s t,[]):=by
 obtain ⟨w1,w2,w3⟩:=(kR s).1 hw;have w3:=(kW _).1 w3;obtain ⟨v1,v2,v3⟩:=(kR t).1 hw';have v3:=(kW _).1 v3;have key:=upto (P:=λi=>jmZ (jH s.args) (vi (s.args.length:Nat)) (vi i) (sv t.name) (jH t.args) (sv []) (sv []) [] []=some ((match fd (s.args.drop i) (t.args.drop i) with|some (a,b)=> .tup [tm a,tm b,vb true]|none=> .tup [zT,zT,vb false]),[])) (n:=s.args.length) ?_ ?_ 0 (ko _)
 ·simp only [kU,kD] at key;rw [jIx,fdR];simp only [hlen] at key;simp only [jd,hn,hlen,key]
 ·rw [jz1,kg];simp only [jd,fd,zT]
 ·intro i hi ih;have hlt:(i:Int) < ((s.args.length:Nat):Int):=by omega
  have hi2:i < t.args.length:=by omega
  have h5:=js hi w2;have e1:=ya s.args[i] (w3 _ (jC _)) t.args[i] (v3 _ (jC _));rw [jz1,ji hi,ji hi2,fd];cases hp:dq s.args[i] t.args[i]<;>rw [hp] at e1
  ·simp only [jd,hlt,ja hi,ja hi2,je,e1]
  ·simp only [jd,hlt,ja hi,ja hi2,je,e1,h5,ih]
theorem jeJ (s t:T) (h:¬(s.name=t.name/\s.args.length=t.args.length)):G 266 [tm s,tm t]=some (.tup [zT,zT,vb false],[]):=by
 rw [jIx];by_cases hn:s.name=t.name
 ·have hlen':¬((s.args.length:Nat):Int)=((t.args.length:Nat):Int):=λe=>h ⟨hn,by omega⟩;simp only [jd,hn,hlen',zT]
 ·simp only [jd,hn,zT]
noncomputable def jww (o:Ord'):Nat->T->T->Bool
 | 0,_,_=>false
 | n+1,s,t=>if jp s.name then false else if (s.args.any λa=>dq a t || jww o n a t) then true else if jp t.name then false
   else if (t.args.any λb=> !jww o n s b) then false else if 0 < yt o s t then true else if yt o s t < 0 then false
   else match fd s.args t.args with|some (a,b)=>jww o n a b|none=>false
theorem jG3 {o:Ord'} {s t:T} (h1:o.syms.contains s.name=true) (h2:o.syms.contains t.name=true) (h:rk o s=rk o t):s.name=t.name:=by
 obtain ⟨k,hk,_⟩:=jeC h1;obtain ⟨j,hj,_⟩:=jeC h2;have a1:=(jhw hk).2;have a2:=(jhw hj).2;simp only [rk,hk,hj,yE,yd] at h;have:k=j:=by omega
 subst this;rw [a1] at a2;exact jbf a2
theorem jtx (o:Ord') (s t:T):yt o t s = - yt o s t:=by
 unfold yt;by_cases h:rk o s=rk o t
 ·rw [jg h,jg h.symm];unfold jbi;split<;>split<;>(try split)<;>omega
 ·rw [jf h,jf (Ne.symm h)];unfold jbi;split<;>split<;>(try split)<;>omega
def jbG (e g l:Bool):Int:=if e then 1 else if g then 2 else if l then 3 else 0
theorem jwp (e g l:Bool):G 190 [vb e,vb g,vb l]=some (vi (jbG e g l),[]):=by
 rw [jK9];cases e<;>cases g<;>cases l<;>simp only [jd,jbG]
theorem jjm {f g:FuncId} {caps caps':List A} (hf:K.pureF f=true) (hg:K.pureF g=true) (e gr le:Bool) (h1:G f caps=some (vb gr,[])) (h2:G g caps'=some (vb le,[])) :
  G 217 [vb e,.fn f caps,.fn g caps']=some (vi (jbG e gr le),[]):=by
 rw [jLu];cases e<;>cases gr<;>cases le<;>simp only [jd,qP hf,qP hg,Ju,h1,h2,jbG]
noncomputable def jGg (o:Ord') (s t:T):Int:=jbG (dq s t) (jww o (nodes s+nodes t) s t) (jww o (nodes s+nodes t) t s)
noncomputable def jGj (o:Ord') (s t:T):A:=if qk o && (good o s && good o t) then .tup [vi (jGg o s t),vb true] else .tup [vi 0,vb false]
mutual
def kK:T->List (List UInt8)
 | .mk n us=>if jp n then [n] else zD us
def zD:List T->List (List UInt8)
 | []=>[]
 | t::ts=>kK t++zD ts
end
theorem Jt (t:T):kK t=if jp t.name then [t.name] else zD t.args:=by cases t;rfl
theorem Kq {n:Nat} (h:n<=4000000):jA n 16=true:=by
 unfold jA;simp;omega
def jd8 (l:List (List UInt8)) (vs:List (List UInt8)) (k:Nat) (r:List (List UInt8)):Prop:=(∀n,n∈r↔n∈l\/n∈vs)/\r.length<=l.length+k
theorem jkv (ts:List T) (hl:ts.length<=9223372036854775807) (hn:jr ts<=1048577) (ih:∀t∈ts,∀l:List (List UInt8),l.length+nodes t<=2100000-> ∃r,jbl (sv t.name) (jH t.args) (l.map cs)=some (.top,[strs r])/\jd8 l (kK t) (nodes t) r) :
  ∀i,i<=ts.length-> ∀l:List (List UInt8),l.length+jr (ts.drop i)<=2100000-> ∃r,jbu (jH ts) (vi (ts.length:Nat)) (vi i) (l.map cs)=some (.top,[strs r])/\jd8 l (zD (ts.drop i)) (jr (ts.drop i)) r:=by
 refine upto ?_ ?_
 ·intro l hb;rw [jbX,kg];refine ⟨l,?_,by simp [zD],by omega⟩;simp only [jd]
 ·intro i hi ih' l hb;have hlt:(i:Int) < ((ts.length:Nat):Int):=by omega
  have h5:=js hi hl;rw [ji hi] at hb ⊢;simp only [jr,zD] at hb ⊢;obtain ⟨r1,e1,c1,c2⟩:=ih ts[i] (jC _) l (by omega);obtain ⟨r2,e2,d1,d2⟩:=ih' r1 (by omega);rw [jbX];refine ⟨r2,?_,?_,by omega⟩
  ·simp only [jd,hlt,ja hi,je,e1,h5,e2]
  ·intro n;rw [d1,c1,kZ];exact Ya
theorem jsC:∀t:T,Zc t->zS t=true->nodes t<=1048577-> ∀l:List (List UInt8),l.length+nodes t<=2100000-> ∃r,jbl (sv t.name) (jH t.args) (l.map cs)=some (.top,[strs r])/\jd8 l (kK t) (nodes t) r:=by
 refine T.ind λt ih hw hk hn l hb=> ?_;obtain ⟨w1,w2,w3⟩:=(kR t).1 hw;have w3:=(kW _).1 w3;have hks:=zj hk;have e1:=YN t hk;rw [jx7,Jt];have hpos:=qT t;rw [jT] at hn hb ⊢;cases hv:jp t.name<;>rw [hv] at e1
 ·
  have ih':∀u∈t.args,∀l:List (List UInt8),l.length+nodes u<=2100000-> ∃r,jbl (sv u.name) (jH u.args) (l.map cs)=some (.top,[strs r])/\jd8 l (kK u) (nodes u) r:=λu hu=>ih u hu (w3 u hu) (hks u hu) (by have:=qH hu;omega)
  have loop:=jkv t.args w2 (by omega) ih';have start:∃r,jbt (jH t.args) (vi (t.args.length:Nat)) (vi 0) (l.map cs)=some (.top,[strs r])/\jd8 l (zD t.args) (jr t.args) r:=by
   rw [jpU];by_cases h0:t.args.length=0
   ·have ha:t.args = []:=jgs.1 h0;rw [ha];refine ⟨l,?_,by simp [zD],by simp [jr]⟩;simp only [jd];rfl
   ·have hi:0 < t.args.length:=by omega
    have hlt:(0:Int) < ((t.args.length:Nat):Int):=by omega
    have hix:jl 2 (jH t.args) (vi 0)=some (.elt (jo t.args[0]) 0):=ja (i:=0) hi;have h5:ju .add false (vi 0) (vi 1)=some (vi ((1:Nat):Int)):=by rw [KX,jE (by decide) (by decide)];rfl
    have hd:t.args=t.args[0]::t.args.drop 1:=by have:=ji hi;simpa using this
    have hns:jr t.args=nodes t.args[0]+jr (t.args.drop 1):=by conv=>lhs;rw [hd,jr]
    have hvs:zD t.args=kK t.args[0]++zD (t.args.drop 1):=by conv=>lhs;rw [hd,zD]
    obtain ⟨r1,e1,c1,c2⟩:=ih' t.args[0] (jC _) l (by omega);obtain ⟨r2,e2,d1,d2⟩:=loop 1 (by omega) r1 (by omega);refine ⟨r2,?_,?_,by omega⟩
    ·simp only [jd,hlt,hix,je,e1,h5,e2]
    ·intro n;rw [d1,c1,hvs,kZ];exact Ya
  obtain ⟨r,e2,d1,d2⟩:=start;refine ⟨r,?_,by simpa using d1,by omega⟩;cases h0:decide (((t.args.length:Nat):Int)=0)
  ·simp only [jd,h0,e2]
  ·simp only [jd,h0,e1,e2]
 ·have ha:t.args = []:=by
   rw [yp,hv] at hk;simpa using hk
  have h0:decide (((t.args.length:Nat):Int)=0)=true:=by rw [ha];rfl
  have e3:=ZF l t.name (by omega);cases hc:l.contains t.name<;>rw [hc] at e3
  ·have hf:jA (l.length+1) 16=true:=Kq (by omega);refine ⟨l++[t.name],?_,by simp,by simp⟩;have happ:jW (l.map cs) [[sv t.name]]=(l++[t.name]).map cs:=by simp [jW]
   simp only [jd,h0,e1,e3,hf,happ]
  ·refine ⟨l,?_,λn=>⟨λh=>Or.inl h,λh=>by
    rcases h with h|h
    ·exact h
    ·simp at h;subst h;simpa using hc⟩,by omega⟩
   simp only [jd,h0,e1,e3]
theorem jfo (t:T) (hw:Zc t) (hk:zS t=true) (hn:nodes t<=1048577):∃r,G 263 [tm t]=some (strs r,[])/\(∀n,n∈r↔n∈kK t)/\r.length<=9223372036854775807:=by
 obtain ⟨r,e1,c1,c2⟩:=jsC t hw hk hn [] (by simp;omega)
 have e2:jhN (r.map cs)=some (.top,[strs (qf r)]):=by
  rw [jx8];simp only [jlT,jd0];rw [jg (by simp at c2;omega)]
 refine ⟨qf r,?_,λn=> ?_,by simp [qf];simp at c2;omega⟩
 ·rw [jLR];simp only [ql] at e1;simp only [jd,e1,e2]
 ·unfold qf;rw [List.mem_mergeSort,c1];simp
mutual
def cnt (n:List UInt8):T->Nat
 | .mk m us=>(if m=n then 1 else 0)+Yf n us
def Yf (n:List UInt8):List T->Nat
 | []=>0
 | t::ts=>cnt n t+Yf n ts
end
theorem jfP (n:List UInt8) (t:T):cnt n t=(if t.name=n then 1 else 0)+Yf n t.args:=by cases t;rfl
theorem jGi (n:List UInt8):∀t:T,cnt n t<=nodes t:=by
 refine T.ind λt ih=> ?_;have:∀ts:List T,(∀u∈ts,cnt n u<=nodes u)->Yf n ts<=jr ts:=by
  intro ts;induction ts with
  | nil=>intro _;simp [Yf]
  | cons u us ih=>
   intro h;have h1:=h u (by simp);have h2:=ih λv hv=>h v (by simp [hv]);simp only [Yf,jr];omega
 have h:=this t.args ih;rw [jfP,jT];split<;>omega
theorem juI (n:List UInt8) (ts:List T):Yf n ts<=jr ts:=by
 induction ts with
 | nil=>simp [Yf]
 | cons u us ih=>have:=jGi n u;simp only [Yf,jr];omega
theorem jis (n:List UInt8) (ts:List T) (hl:ts.length<=9223372036854775807) (hn:jr ts<=1048577) (ih:∀t∈ts,G 246 [tm t,sv n]=some (vi (cnt n t:Nat),[])) :
  ∀i,i<=ts.length-> ∀a:Nat,a+Yf n (ts.drop i)<=1048579->jie (sv n) (vi a) (jH ts) (vi (ts.length:Nat)) (vi i)=some (vi ((a+Yf n (ts.drop i):Nat):Int),[]):=by
 refine upto ?_ ?_
 ·intro a ha;rw [jzY,kg];simp only [jd,Yf,j9]
 ·intro i hi ih' a ha;have hlt:(i:Int) < ((ts.length:Nat):Int):=by omega
  have h5:=js hi hl;have e1:=ih ts[i] (jC _);rw [ji hi] at ha ⊢;simp only [Yf] at ha ⊢;have hk:ck ((a:Int)+((cnt n ts[i]:Nat):Int))=some (vi ((a+cnt n ts[i]:Nat):Int)):=by rw [jE (by omega) (by omega)];rfl
  have ih':=ih' (a+cnt n ts[i]) (by omega);rw [jzY];simp only [jd,hlt,ja hi,je,e1,hk,h5,ih',jd5]
theorem KR (n:List UInt8):∀t:T,Zc t->nodes t<=1048577->G 246 [tm t,sv n]=some (vi (cnt n t:Nat),[]):=by
 refine T.ind λt ih hw hn=> ?_;obtain ⟨w1,w2,w3⟩:=(kR t).1 hw;have w3:=(kW _).1 w3;rw [jT] at hn;have hc:=juI n t.args;have key:=λa h=>jis n t.args w2 (by omega) (λu hu=>ih u hu (w3 u hu) (by have:=qH hu;omega)) 0 (ko _) a h;simp only [kU,kD] at key;rw [jLN,jfP];by_cases h:t.name=n
 ·have key:=key 1 (by omega);simp only [jgl] at key;simp only [jd,h,key]
 ·have key:=key 0 (by omega);simp only [kU] at key;simp only [jd,h,key]
theorem jnD (m n:List UInt8) (ts:List T) (hl:ts.length<=9223372036854775807) (hn:jr ts<=1048577) (ih:∀t∈ts,G 269 [tm t,sv n]=some (vi (cnt n t:Nat),[])) :
  ∀i,i<=ts.length-> ∀a:Nat,a+Yf n (ts.drop i)<=1048579->jig (sv n) (vi a) (vi i) (sv m) (jH ts)=some (vi ((a+Yf n (ts.drop i):Nat):Int),[]):=by
 refine upto ?_ ?_
 ·intro a ha;rw [jz3,kg];simp only [jd,Yf,j9]
 ·intro i hi ih' a ha;have hlt:(i:Int) < ((ts.length:Nat):Int):=by omega
  have h5:=js hi hl;have e1:=ih ts[i] (jC _);rw [ji hi] at ha ⊢;simp only [Yf] at ha ⊢;have hk:ck ((a:Int)+((cnt n ts[i]:Nat):Int))=some (vi ((a+cnt n ts[i]:Nat):Int)):=by rw [jE (by omega) (by omega)];rfl
  have ih':=ih' (a+cnt n ts[i]) (by omega);rw [jz3];simp only [jd,hlt,ja hi,je,e1,hk,h5,ih',jd5]
theorem jiU (n:List UInt8):∀t:T,Zc t->nodes t<=1048577->G 269 [tm t,sv n]=some (vi (cnt n t:Nat),[]):=by
 refine T.ind λt ih hw hn=> ?_;obtain ⟨w1,w2,w3⟩:=(kR t).1 hw;have w3:=(kW _).1 w3;rw [jT] at hn;have hc:=juI n t.args;have key:=λa h=>jnD t.name n t.args w2 (by omega) (λu hu=>ih u hu (w3 u hu) (by have:=qH hu;omega)) 0 (ko _) a h;simp only [kU,kD] at key;rw [jLV,jfP];by_cases h:t.name=n
 ·have key:=key 1 (by omega);simp only [jgl] at key;rw [h] at key;simp only [jd,h,key]
 ·have key:=key 0 (by omega);simp only [kU] at key;simp only [jd,h,key]
theorem jAb (l:List (List UInt8)) (s:List UInt8) (hl:l.length<=2100000):∃r,G 187 [strs l,sv s]=some (strs r,[])/\jd8 l [s] 1 r:=by
 have key:=upto (P:=λi=>∃r,jh6 (strs l) (sv s) (vi i)=some (strs r,[])/\jd8 l [s] 1 r) (n:=l.length) ?_ ?_ 0 (ko _)
 ·simp only [kU] at key;rw [jIq];exact key
 ·have hx:¬((l.length:Nat):Int) < ((l.length:Nat):Int):=Int.lt_irrefl _;have s1:yq 1 (strs l) none (some (vi (l.length:Nat)))=some (strs l):=by rw [KD (by simp),Zd (by simp)]
  have s2:yq 1 (strs l) (some (vi (l.length:Nat))) none=some (.sl 1 []):=by rw [qd (by simp),jmi (by simp)]
  have f1:jA l.length 16=true:=Kq (by omega);have f2:jA (l.length+1) 16=true:=Kq (by omega);have happ:jW (jW (l.map cs) [[sv s]]) []=(l++[s]).map cs:=by simp [jW]
  have hlen:(jW (l.map cs) [[sv s]]).length=l.length+1:=by simp [jW]
  refine ⟨l++[s],?_,by intro n;simp,by simp⟩
  rw [jny];simp only [jd,hx,s1,s2,f1,f2,hlen,happ,j9]
 ·intro i hi ih;have hlt:(i:Int) < ((l.length:Nat):Int):=by omega
  have h5:=js hi (by omega);rw [jny];cases h1:yX l[i] s
  ·by_cases h2:l[i]=s
   ·refine ⟨l,?_,λn=>⟨λh=>Or.inl h,λh=>by
     rcases h with h|h
     ·exact h
     ·simp at h;rw [h,<-h2];exact jC _⟩,by omega⟩
    rw [h2] at h1;simp only [jd,hlt,ja hi,h2,h1]
   ·have s1:yq 1 (strs l) none (some (vi i))=some (strs (l.take i)):=by rw [KD (by simp;omega),<-jfr]
    have s2:yq 1 (strs l) (some (vi i)) none=some (strs (l.drop i)):=by rw [qd (by simp;omega),<-jcA]
    have ht:(l.take i).length=i:=by rw [Ky];omega
    have f1:jA i 16=true:=Kq (by omega);have f2:jA (i+1) 16=true:=Kq (by omega);have f3:jA (i+1+(l.drop i).length) 16=true:=Kq (by rw [qu];omega);have happ:jW (jW ((l.take i).map cs) [[sv s]]) ((l.drop i).map cs)=(l.take i++[s]++l.drop i).map cs:=by simp [jW]
    have hlen:(jW ((l.take i).map cs) [[sv s]]).length=i+1:=by simp [jW];omega
    refine ⟨l.take i++[s]++l.drop i,?_,λn=> ?_,by simp;omega⟩
    ·simp only [jd,hlt,ja hi,h1,h2,s1,s2,ht,f1,f2,f3,hlen,happ]
    ·have hm:n∈l↔n∈l.take i\/n∈l.drop i:=by rw [<-kZ,jmf]
     simp only [kZ,ku,hm];exact ⟨λh=>by rcases h with (h|h)|h<;>simp [h],λh=>by rcases h with (h|h)|h<;>simp [h]⟩
  ·obtain ⟨r,e,c⟩:=ih;refine ⟨r,?_,c⟩;simp only [jd,hlt,ja hi,h1,h5,e]
theorem jwk:∀t:T,Zc t-> ∀l:List (List UInt8),l.length+nodes t<=2100000-> ∃r,G 270 [strs l,tm t]=some (strs r,[])/\jd8 l (kK t) (nodes t) r:=by
 refine T.ind λt ih hw l hb=> ?_;obtain ⟨w1,w2,w3⟩:=(kR t).1 hw;have w3:=(kW _).1 w3;have e1:=zK t.name w1;rw [jLW,Jt];rw [jT] at hb ⊢;cases hv:jp t.name<;>rw [hv] at e1
 ·have key:=upto (P:=λi=>∀l:List (List UInt8),l.length+jr (t.args.drop i)<=2100000-> ∃r,jm1 (strs l) (vi i) (sv t.name) (jH t.args)=some (strs r,[])/\jd8 l (zD (t.args.drop i)) (jr (t.args.drop i)) r) (n:=t.args.length) ?_ ?_ 0 (ko _)
  ·simp only [kU,kD] at key;obtain ⟨r,e,c1,c2⟩:=key l (by omega);refine ⟨r,?_,by simpa using c1,by omega⟩;simp only [jd,e1,e]
  ·intro l hb;rw [jz4,kg];refine ⟨l,?_,by simp [zD],by omega⟩;simp only [jd]
  ·intro i hi ih' l hb;have hlt:(i:Int) < ((t.args.length:Nat):Int):=by omega
   have h5:=js hi w2;rw [ji hi] at hb ⊢;simp only [jr,zD] at hb ⊢;obtain ⟨r1,a1,c1,c2⟩:=ih t.args[i] (jC _) (w3 _ (jC _)) l (by omega);obtain ⟨r2,a2,d1,d2⟩:=ih' r1 (by omega);rw [jz4];refine ⟨r2,?_,?_,by omega⟩
   ·simp only [jd,hlt,ja hi,je,a1,h5,a2]
   ·intro n;rw [d1,c1,kZ];exact Ya
 ·obtain ⟨r,e,c1,c2⟩:=jAb l t.name (by omega);refine ⟨r,?_,by simpa using c1,by omega⟩;simp only [jd,e1,e]
theorem jlh (t:T) (hw:Zc t) (hn:nodes t<=1048577):∃r,G 231 [tm t]=some (strs r,[])/\(∀n,n∈r↔n∈kK t)/\r.length<=9223372036854775807:=by
 obtain ⟨r,e,c1,c2⟩:=jwk t hw [] (by simp;omega)
 have e:G 270 [.sl 1 [],tm t]=some (strs r,[]):=e;refine ⟨r,?_,λn=>by rw [c1];simp,by simp at c2;omega⟩;rw [jLD];simp only [jd,e]
def bal (s t:T):Bool:=(kK t).all λn=>decide (cnt n t<=cnt n s)
theorem jx3 {r:List (List UInt8)} {s t:T} (h:∀n,n∈r↔n∈kK t):(r.all λn=>decide (cnt n t<=cnt n s))=bal s t:=by
 unfold bal;rw [Bool.eq_iff_iff,qn,qn];exact ⟨λa n hn=>a n ((h n).2 hn),λa n hn=>a n ((h n).1 hn)⟩
theorem jo6 (s t:T) (hw:Zc s) (hw':Zc t) (hs:nodes s<=1048577) (ht:nodes t<=1048577):G 225 [tm s,tm t]=some (vb (bal s t),[]):=by
 obtain ⟨r,e,c1,c2⟩:=jlh t hw' ht;have key:=upto (P:=λi=>jmV (strs r) (vi i) (sv s.name) (jH s.args) (sv t.name) (jH t.args)=some (vb ((r.drop i).all λn=>decide (cnt n t<=cnt n s)),[])) (n:=r.length) ?_ ?_ 0 (ko _)
 ·simp only [kU,kD] at key;rw [jx3 c1] at key;rw [jLx];simp only [jd,e,key]
 ·rw [jzS,kg];simp only [jd]
 ·intro i hi ih;have hlt:(i:Int) < ((r.length:Nat):Int):=by omega
  have h5:=js hi c2;have e1:=jiU r[i] s hw hs;have e2:=jiU r[i] t hw' ht;rw [jzS,ji hi,yU];by_cases h:cnt r[i] t<=cnt r[i] s
  ·have h':¬((cnt r[i] s:Nat):Int) < ((cnt r[i] t:Nat):Int):=by omega
   simp only [jd,hlt,ja hi,e1,e2,h',h,h5,ih,jR]
  ·have h':((cnt r[i] s:Nat):Int) < ((cnt r[i] t:Nat):Int):=by omega
   simp only [jd,hlt,ja hi,e1,e2,h',h,jK]
noncomputable def Z3 (o:Ord'):Nat->T->T->Bool
 | 0,_,_=>false
 | n+1,s,t=>if bal s t then (if wt o s=wt o t then (if jp s.name || jp t.name then false else if yt o s t=0 then (match fd s.args t.args with|some (a,b)=>Z3 o n a b|none=>false) else decide (0 < yt o s t)) else decide (wt o t < wt o s)) else false
theorem jpM {s t a b:T} {n:Nat} (ha:a∈s.args) (hb:b∈t.args) (h:nodes s+nodes t<=n+1):nodes a+nodes b<=n:=by
 have h1:=qH ha;have h2:=qH hb;rw [jT s,jT t] at h;omega
theorem jlI {o:Ord'} {s t:T} (h:yt o s t=0):rk o s=rk o t/\s.args.length=t.args.length:=by
 unfold yt jbi at h;split at h
 ·rename_i h1;refine ⟨h1,?_⟩;split at h
  ·cases h
  ·split at h
   ·cases h
   ·omega
 ·split at h
  ·cases h
  ·split at h
   ·cases h
   ·omega
theorem jiW {o:Ord'} (hv:qk o=true) (ho:o.syms.length<=9223372036854775807):∀(n:Nat) (s t:T),nodes s+nodes t<=n->Zc s->Zc t->tsz s<=1048576->tsz t<=1048576->K9 o.syms s=true->K9 o.syms t=true->G 191 [od o,tm s,tm t]=some (vb (Z3 o n s t),[])
 | 0,s,t,h,_,_,_,_,_,_=>by have:=qT s;omega
 | n+1,s,t,h,hw,hw',hs,ht,hc,hc'=>by
  obtain ⟨w1,w2,w3⟩:=(kR s).1 hw;have w3:=(kW _).1 w3;obtain ⟨v1,v2,v3⟩:=(kR t).1 hw';have v3:=(kW _).1 v3;have hns:=Jp s;have hnt:=Jp t;have e1:=jo6 s t hw hw' (by omega) (by omega);have e2:=jgM hv ho s hw hs hc;have e3:=jgM hv ho t hw' ht hc';have e4:=zK s.name w1;have e5:=zK t.name v1;have e6:=jDV o s t ho;have cs1:∀a∈s.args,K9 o.syms a=true:=λa ha=>by rw [Kn,jy] at hc;exact KA hc.2 ha
  have cs2:∀a∈t.args,K9 o.syms a=true:=λa ha=>by rw [Kn,jy] at hc';exact KA hc'.2 ha
  rw [jLa,Z3];cases hb:bal s t<;>rw [hb] at e1
  ·simp only [jd,e1]
  by_cases hwt:wt o s=wt o t;rotate_left
  ·simp only [jd,e1,e2,e3,hwt]
  cases hv1:jp s.name<;>rw [hv1] at e4
  rotate_left
  ·simp only [jd,e1,e2,e3,hwt,e4,Jl]
  cases hv2:jp t.name<;>rw [hv2] at e5
  rotate_left
  ·simp only [jd,e1,e2,e3,hwt,e4,e5,zF]
  by_cases hr:yt o s t=0;rotate_left
  ·simp only [jd,e1,e2,e3,hwt,e4,e5,e6,hr,zF]
  obtain ⟨_,hlen⟩:=jlI hr;rcases jyJ s t hw hw' hlen with ⟨f1,f2⟩|⟨k,k1,k2,f1,f2⟩
  ·have:¬(0:Int)<= -1:=by decide
   simp only [jd,e1,e2,e3,hwt,e4,e5,e6,hr,zF,f1,f2,this]
  ·have m1:=jC k1;have m2:=jC k2;have e7:=jiW hv ho n s.args[k] t.args[k] (jpM m1 m2 h) (w3 _ m1) (v3 _ m2) (by have:=y7 m1;rw [kH] at hs;omega) (by have:=y7 m2;rw [kH] at ht;omega) (cs1 _ m1) (cs2 _ m2);have:(0:Int)<=(k:Int):=by omega
   simp only [jd,e1,e2,e3,hwt,e4,e5,e6,hr,zF,f1,f2,this,ja k1,ja k2,je,e7]
theorem jsQ {o:Ord'} (hv:qk o=true) (ho:o.syms.length<=9223372036854775807):∀(n:Nat) (s t:T),nodes s+nodes t<=n->Zc s->Zc t->tsz s<=1048576->tsz t<=1048576->zS s=true->zS t=true->K9 o.syms s=true->K9 o.syms t=true->G 219 [od o,tm s,tm t]=some (vb (Z3 o n s t),[])
 | 0,s,t,h,_,_,_,_,_,_,_,_=>by have:=qT s;omega
 | n+1,s,t,h,hw,hw',hs,ht,hk,hk',hc,hc'=>by
  obtain ⟨w1,w2,w3⟩:=(kR s).1 hw;have w3:=(kW _).1 w3;obtain ⟨v1,v2,v3⟩:=(kR t).1 hw';have v3:=(kW _).1 v3;have hns:=Jp s;have hnt:=Jp t;have ks:=zj hk;have ks':=zj hk';have e2:=jmd hv ho s hw hs hk hc;have e3:=jmd hv ho t hw' ht hk' hc';have e4:=YN s hk;have e5:=YN t hk';have e6:=jqK o t s ho;rw [jtx] at e6;have cs1:∀a∈s.args,K9 o.syms a=true:=λa ha=>by rw [Kn,jy] at hc;exact KA hc.2 ha
  have cs2:∀a∈t.args,K9 o.syms a=true:=λa ha=>by rw [Kn,jy] at hc';exact KA hc'.2 ha
  obtain ⟨r,er,c1,c2⟩:=jfo t hw' hk' (by omega);have tail:jia (strs r) (vi (r.length:Nat)) (vi (r.length:Nat)) (strs o.syms) (ints o.ws) (vi o.var) (sv s.name) (jH s.args) (sv t.name) (jH t.args)=some (vb (if wt o s=wt o t then (if jp s.name || jp t.name then false else if yt o s t=0 then (match fd s.args t.args with|some (a,b)=>Z3 o n a b|none=>false) else decide (0 < yt o s t)) else decide (wt o t < wt o s)),[]):=by
   rw [jsY];by_cases hwt:wt o s=wt o t;rotate_left
   ·simp only [jd,e2,e3,hwt]
   have hnlt:¬wt o t < wt o s:=by omega
   cases hv1:jp s.name<;>rw [hv1] at e4
   rotate_left
   ·simp only [jd,e2,e3,hwt,e4,Jl]
   cases hv2:jp t.name<;>rw [hv2] at e5
   rotate_left
   ·simp only [jd,e2,e3,hwt,e4,e5,zF]
   by_cases hr:yt o s t=0
   ·have hr':¬ -yt o s t < 0:=by omega
    obtain ⟨hrk,hlen⟩:=jlI hr;have hcn:o.syms.contains s.name=true:=by rw [Kn,hv1,zF,jy] at hc;exact hc.1
    have hcn':o.syms.contains t.name=true:=by rw [Kn,hv2,zF,jy] at hc';exact hc'.1
    have e7:=jeI s t hw hw' (jG3 hcn hcn' hrk) hlen;cases hf:fd s.args t.args with
    | none=>
     have:fdR s t = .tup [zT,zT,vb false]:=by unfold fdR;rw [hf]
     rw [this] at e7;simp only [hr] at e6;simp only [jd,e2,e3,hwt,e4,e5,e6,hr,hr',zF,e7,zT,Int.neg_zero]
    | some p=>
     obtain ⟨a,b⟩:=p;have:fdR s t = .tup [tm a,tm b,vb true]:=by unfold fdR;rw [hf]
     rw [this] at e7;obtain ⟨ma,mb⟩:=jnn hf;have e8:=jsQ hv ho n a b (jpM ma mb h) (w3 a ma) (v3 b mb) (by have:=y7 ma;rw [kH] at hs;omega) (by have:=y7 mb;rw [kH] at ht;omega) (ks a ma) (ks' b mb) (cs1 a ma) (cs2 b mb);simp only [hr] at e6;simp only [jd,e2,e3,hwt,e4,e5,e6,hr,hr',zF,e7,e8,Int.neg_zero]
   ·by_cases hg:0 < yt o s t
    ·have hg': -yt o s t < 0:=by omega
     simp only [jd,e2,e3,hwt,e4,e5,e6,hr,hg,hg',zF]
    ·have hg':¬ -yt o s t < 0:=by omega
     have hno:¬(s.name=t.name/\s.args.length=t.args.length):=by
      rintro ⟨q1,q2⟩;apply hr;have:rk o s=rk o t:=by unfold rk;rw [q1]
      unfold yt jbi;rw [jg this,q2];simp
     have e7:=jeJ s t hno;simp only [jd,e2,e3,hwt,e4,e5,e6,hr,hg,hg',zF,e7,zT]
  have key:=upto (P:=λi=>jia (strs r) (vi (r.length:Nat)) (vi i) (strs o.syms) (ints o.ws) (vi o.var) (sv s.name) (jH s.args) (sv t.name) (jH t.args)=some (vb (if ((r.drop i).all λn=>decide (cnt n t<=cnt n s)) then (if wt o s=wt o t then (if jp s.name || jp t.name then false else if yt o s t=0 then (match fd s.args t.args with|some (a,b)=>Z3 o n a b|none=>false) else decide (0 < yt o s t)) else decide (wt o t < wt o s)) else false),[])) (n:=r.length) ?_ ?_ 0 (ko _)
  ·simp only [kU,kD] at key;rw [jx3 c1] at key;rw [jIu,Z3];simp only [jd,er];exact key
  ·rw [tail,kg];rfl
  ·intro i hi ih;have hlt:(i:Int) < ((r.length:Nat):Int):=by omega
   have h5:=js hi c2;have a1:=KR r[i] s hw (by omega);have a2:=KR r[i] t hw' (by omega);rw [jsY,ji hi,yU];by_cases hcn:cnt r[i] t<=cnt r[i] s
   ·have h':¬((cnt r[i] s:Nat):Int) < ((cnt r[i] t:Nat):Int):=by omega
    simp only [jd,hlt,ja hi,a1,a2,h',hcn,h5,ih,jR]
   ·have h':((cnt r[i] s:Nat):Int) < ((cnt r[i] t:Nat):Int):=by omega
    simp only [jd,hlt,ja hi,a1,a2,h',hcn,jK]
noncomputable def jay (o:Ord') (s t:T):Int:=jbG (dq s t) (Z3 o (nodes s+nodes t) s t) (Z3 o (nodes s+nodes t) t s)
noncomputable def jaA (o:Ord') (s t:T):A:=if qk o && (good o s && good o t) then .tup [vi (jay o s t),vb true] else .tup [vi 0,vb false]
theorem jhk (o:Ord') (s t:T) (ho:owf o) (hw:Zc s) (hs:tsz s<=1048576) (hw':Zc t) (hs':tsz t<=1048576):G 139 [od o,tm s,tm t]=some (jaA o s t,[]):=by
 have e1:=jwq o ho;have e2:=jlj o s ho.1.2 hw hs;have e3:=jlj o t ho.1.2 hw' hs';have e4:=Jx s hw t hw';have e7:=jwp (dq s t) (Z3 o (nodes s+nodes t) s t) (Z3 o (nodes s+nodes t) t s);rw [jKB,jaA];cases h:qk o<;>rw [h] at e1
 ·simp only [jd,e1,jK]
 ·cases h2:good o s<;>rw [h2] at e2
  ·simp only [jd,e1,e2,zr,jK]
  ·cases h3:good o t<;>rw [h3] at e3
   ·simp only [jd,e1,e2,e3,zr]
   ·have g2:=jk9 h2;have g3:=jk9 h3;have e5:=jiW h ho.1.2 (nodes s+nodes t) s t (kz _) hw hw' hs hs' g2.2.1 g3.2.1;have e6:=jiW h ho.1.2 (nodes s+nodes t) t s (by omega) hw' hw hs' hs g3.2.1 g2.2.1;simp only [jd,e1,e2,e3,e4,e5,e6,e7,jay]
theorem jhc {o:Ord'} (hv:qk o=true) (s t:T) (ho:owf o) (hw:Zc s) (hs:tsz s<=1048576) (hw':Zc t) (hs':tsz t<=1048576) (hk:zS s=true) (hk':zS t=true) (hc:K9 o.syms s=true) (hc':K9 o.syms t=true):G 174 [od o,tm s,tm t]=some (vi (jay o s t),[]):=by
 have e4:=ya s hw t hw';have e5:=jsQ hv ho.1.2 (nodes s+nodes t) s t (kz _) hw hw' hs hs' hk hk' hc hc';have e6:=jsQ hv ho.1.2 (nodes s+nodes t) t s (by omega) hw' hw hs' hs hk' hk hc' hc;have c1:G 218 [.elt (jnS o) 0,.elt [sv s.name,.sl 2 (s.args.map jo)] 0,.elt [sv t.name,.sl 2 (t.args.map jo)] 0]=some (vb (Z3 o (nodes s+nodes t) s t),[]):=by
  rw [jIt];simp only [jd,je0,je1,e5]
 have c2:G 220 [.elt (jnS o) 0,.elt [sv t.name,.sl 2 (t.args.map jo)] 0,.elt [sv s.name,.sl 2 (s.args.map jo)] 0]=some (vb (Z3 o (nodes s+nodes t) t s),[]):=by
  rw [jIv];simp only [jd,je0,je1,e6]
 have e7:=jjm (f:=218) (g:=220) rfl rfl (dq s t) _ _ c1 c2;rw [jIp];simp only [jd,e4,e7,jay]
def YF (t:T):T:=t.args.getD 0 (.mk [] [])
def QC (t:T):T:=t.args.getD 1 (.mk [] [])
def jbK (t:T):Bool:=decide (t.args.length=2) && (jD t && (zS (YF t) && zS (QC t)))
theorem Zk {t:T} (hl:t.args.length=2):jl 2 (jH t.args) (vi 0)=some (.elt (jo (YF t)) 0)/\jl 2 (jH t.args) (vi 1)=some (.elt (jo (QC t)) 0)/\YF t∈t.args/\QC t∈t.args:=by
 have e0:YF t=t.args[0]:=by unfold YF;simp [zY,hl]
 have e1:QC t=t.args[1]:=by unfold QC;simp [zY,hl]
 rw [e0,e1];exact ⟨ja (i:=0) (by omega),ja (i:=1) (by omega),jC _,jC _⟩
theorem jdH (t:T) (hw:Zc t) (hs:tsz t<=1048576) (he:t.name = [61]):G 113 [tm t]=some (vb (jbK t),[]):=by
 obtain ⟨w1,w2,w3⟩:=(kR t).1 hw;have w3:=(kW _).1 w3;have het:(t.name = [61])=True:=yC he;unfold jbK;rw [jGr];by_cases hl:t.args.length=2;rotate_left
 ·have hl':¬((t.args.length:Nat):Int)=2:=by omega
  simp only [jd,het,hl',hl,jK]
 have hl':((t.args.length:Nat):Int)=2:=by omega
 rw [jQ hl,jR];obtain ⟨i0,i1,ma,mb⟩:=Zk hl;have p1:=jlg t hw hs;have p2:=jdI _ (w3 _ ma);have p3:=jdI _ (w3 _ mb);cases h1:jD t<;>rw [h1] at p1
 ·simp only [jd,het,hl',p1,jK,zr]
 ·cases h2:zS (YF t)<;>rw [h2] at p2
  ·simp only [jd,het,hl',p1,i0,je,p2,jK,zr]
  ·simp only [jd,het,hl',p1,i0,i1,je,p2,p3,jR]
theorem qG (t:T):G 120 [tm t]=some (vb (decide (t.name = [61])),[]):=by
 rw [jKm];simp only [jd]
theorem ja9 (t:T) (hw:Zc t) (hs:tsz t<=1048576) (he:t.name = [61]):G 153 [tm t]=some (vb (jbK t),[]):=by
 obtain ⟨w1,w2,w3⟩:=(kR t).1 hw;have w3:=(kW _).1 w3;have q0:=qG t;rw [jQ he] at q0;unfold jbK;rw [jIo];by_cases hl:t.args.length=2;rotate_left
 ·have hl':¬((t.args.length:Nat):Int)=2:=by omega
  simp only [jd,q0,hl',hl,jK]
 have hl':((t.args.length:Nat):Int)=2:=by omega
 rw [jQ hl,jR];obtain ⟨i0,i1,ma,mb⟩:=Zk hl;have p1:=jaG t hw hs;have p2:=jbO _ (w3 _ ma);have p3:=jbO _ (w3 _ mb);cases h1:jD t<;>rw [h1] at p1
 ·simp only [jd,q0,hl',p1,jK,zr]
 ·cases h2:zS (YF t)<;>rw [h2] at p2
  ·simp only [jd,q0,hl',p1,i0,je,p2,jK,zr]
  ·simp only [jd,q0,hl',p1,i0,i1,je,p2,p3,jR]
def jMZ (o:Ord') (t:T):Bool:=decide (t.name = [61]) && (jbK t && (K9 o.syms (YF t) && K9 o.syms (QC t)))
theorem Kd (n:List UInt8) (us:List T):tsz (.mk n us)=n.length+us.length+Jd us:=rfl
theorem jHe:∀t:T,tsz t<=1048576->Zc t:=by
 refine T.ind λt ih h=> ?_;have h':=h;rw [kH] at h';exact (kR t).2 ⟨by omega,by omega,(kW _).2 λu hu=>ih u hu (by have:=y7 hu;omega)⟩
theorem jjp {n:Nat} (h:n<=4194304):jA n 40=true:=by
 unfold jA;exact jQ ⟨by omega,by omega⟩
theorem Z5 (t:T):tsz t<=1048576->G 67 [tm t]=some (tm t,[]):=by
 refine T.ind (p:=λt=>tsz t<=1048576->G 67 [tm t]=some (tm t,[])) ?_ t;intro t ih h;rw [kH] at h;have key:=(upto (P:=λi=>juk (vi i) (sv t.name) (jH t.args) (sv []) (sv t.name) [] ((t.args.take i).map jo)=some (tm t,[])) (n:=t.args.length) ?_ ?_ 0 (ko _))
 ·rw [g67];simp only [kU,jal,ql] at key;simp only [jd,key]
 ·rw [jE2,jam];simp only [jd]
 ·intro i hi ih';have hlt:(i:Int) < ((t.args.length:Nat):Int):=by omega
  have h5:=js hi (by show t.args.length<=9223372036854775807;omega)
  have e1:=ih t.args[i] (jC _) (by have:=y7 (jC hi);omega)
  have hf:jA (i+1) 40=true:=jjp (by omega);have hl:((t.args.take i).map jo).length=i:=by rw [kj,Ky];omega
  have ha:jW ((t.args.take i).map jo) [[sv t.args[i].name,jH t.args[i].args]]=(t.args.take (i+1)).map jo:=by
   rw [show [sv t.args[i].name,jH t.args[i].args]=jo t.args[i] from (kG _).symm,jho,kO hi,zy];rfl
  rw [jE2];simp only [jd,hlt,ja hi,je,e1,hl,hf,ha,h5,ih',Ky,ja4 (Qc hi)]
theorem jDP (o:Ord') (s t:T):yt o s t=0↔rk o s=rk o t/\s.args.length=t.args.length:=by
 unfold yt jbi;constructor
 ·intro h;split at h
  ·rename_i h1;refine ⟨h1,?_⟩;split at h
   ·omega
   ·split at h<;>omega
  ·split at h
   ·omega
   ·split at h<;>omega
 ·rintro ⟨h1,h2⟩;rw [jg h1,jf (by omega),jf (by omega)]
theorem jDO (o:Ord') (s:T):yt o s s=0:=(jDP o s s).2 ⟨rfl,rfl⟩
theorem juP:∀l:List T,fd l l=none
 | []=>rfl
 | x::l=>by rw [fd,jg (qz.2 rfl),juP l]
def Lp (o:Ord') (s t:T):Prop:=jww o (nodes s+nodes t) s t=true
theorem jcM {s a:T} (h:a∈s.args):nodes a < nodes s:=by
 have:=qH h;rw [jT s];omega
def Kp (o:Ord') (s t:T):Prop:=Z3 o (nodes s+nodes t) s t=true
theorem jdG (o:Ord'):∀(n m:Nat) (s t:T),nodes s+nodes t<=n->nodes s+nodes t<=m->Z3 o n s t=Z3 o m s t
 | 0,_,s,t,h,_=>by have:=qT s;omega
 | _+1,0,s,t,_,h=>by have:=qT s;omega
 | n+1,m+1,s,t,h1,h2=>by
  rw [Z3,Z3];cases hf:fd s.args t.args with
  | none=>rfl
  | some p=>
   obtain ⟨a,b⟩:=p;have hm:=jnn hf;have h3:=jcM hm.1;have h4:=jcM hm.2;simp only [jdG o n m a b (by omega) (by omega)]
theorem jxO (o:Ord') (s t:T):Kp o s t↔bal s t=true/\(wt o t < wt o s\/(wt o s=wt o t/\(jp s.name=false/\jp t.name=false)/\(0 < yt o s t\/(yt o s t=0/\ ∃a b,fd s.args t.args=some (a,b)/\Kp o a b)))):=by
 unfold Kp;obtain ⟨n,hn⟩:∃n,nodes s+nodes t=n+1:=⟨nodes s+nodes t - 1,by have:=qT s;omega⟩;rw [hn,Z3];have e3:(match fd s.args t.args with|some (a,b)=>Z3 o n a b|none=>false)=true↔ ∃a b,fd s.args t.args=some (a,b)/\Z3 o (nodes a+nodes b) a b=true:=by
  cases hf:fd s.args t.args with
  | none=>simp
  | some p=>
   obtain ⟨a,b⟩:=p;have hm:=jnn hf;have h3:=jcM hm.1;have h4:=jcM hm.2;dsimp only;rw [jdG o n (nodes a+nodes b) a b (by omega) (kz _)];constructor
   ·intro h;exact ⟨a,b,rfl,h⟩
   ·rintro ⟨a',b',h,h'⟩;cases h;exact h'
 cases hb:bal s t
 ·simp
 ·rw [jg rfl];simp only [true_and];by_cases hw:wt o s=wt o t
  ·rw [jg hw];have hw':¬wt o t < wt o s:=by omega
   cases hv:jp s.name
   ·cases hv2:jp t.name
    ·simp only [Bool.or_self,Zi,K6,true_and,and_self];by_cases hr:yt o s t=0
     ·rw [jg hr];refine Iff.trans e3 ?_;constructor
      ·intro h;exact Or.inr ⟨hw,Or.inr ⟨hr,h⟩⟩
      ·rintro (h|⟨_,h|⟨_,h⟩⟩)
       ·exact (hw' h).elim
       ·omega
       ·exact h
     ·rw [jf hr,joz];constructor
      ·intro h;exact Or.inr ⟨hw,Or.inl h⟩
      ·rintro (h|⟨_,h|⟨h,_⟩⟩)
       ·exact (hw' h).elim
       ·exact h
       ·exact (hr h).elim
    ·simp [hw']
   ·simp [hw']
  ·rw [jf hw,joz];constructor
   ·intro h;exact Or.inl h
   ·rintro (h|⟨h,_⟩)
    ·exact h
    ·exact (hw h).elim
theorem jBI {n:List UInt8} (hn:jp n=true):∀t:T,zS t=true->(n∈kK t↔1<=cnt n t):=by
 refine T.ind λt ih hk=> ?_;have hL:∀ts:List T,(∀u∈ts,(n∈kK u↔1<=cnt n u))->(n∈zD ts↔1<=Yf n ts):=by
  intro ts;induction ts with
  | nil=>intro _;simp [zD,Yf]
  | cons u us ih2=>
   intro h;have h1:=h u (by simp);have h2:=ih2 λv hv=>h v (by simp [hv]);simp only [zD,Yf,kZ,h1,h2];omega
 have hargs:=hL t.args λu hu=>ih u hu (zj hk u hu);rw [Jt,jfP];rw [yp] at hk;cases hv:jp t.name
 ·have hne:t.name≠n:=λe=>by rw [e,hn] at hv;cases hv
  rw [jf j7,jf hne,hargs];omega
 ·rw [hv,jg rfl] at hk;have ha:=jcr.1 hk;rw [jg rfl,ku,ha];by_cases e:t.name=n
  ·rw [jg e];simp [Yf,e]
  ·rw [jf e];simp [Yf];exact λh=>e h.symm
theorem jrG {n:List UInt8} :∀t:T,n∈kK t->jp n=true:=by
 refine T.ind λt ih h=> ?_;rw [Jt] at h;cases hv:jp t.name
 ·rw [hv,jf j7] at h;have:∀ts:List T,(∀u∈ts,n∈kK u->jp n=true)->n∈zD ts->jp n=true:=by
   intro ts;induction ts with
   | nil=>intro _ h;simp [zD] at h
   | cons u us ih2=>
    intro h h2;simp only [zD,kZ] at h2;rcases h2 with h2|h2
    ·exact h u (by simp) h2
    ·exact ih2 (λv hv=>h v (by simp [hv])) h2
  exact this t.args ih h
 ·rw [hv,jg rfl,ku] at h;rw [h];exact hv
theorem jFy (o:Ord') (x:T):¬Kp o x x:=by
 intro h;obtain ⟨_,h|⟨_,_,h|⟨_,_,_,h,_⟩⟩⟩:=(jxO o x x).1 h
 ·omega
 ·rw [jDO] at h;omega
 ·rw [juP] at h;cases h
theorem jv1 (o:Ord') (s t:T):jay o s t=jbG (dq s t) (@decide (Kp o s t) (Classical.propDecidable _)) (@decide (Kp o t s) (Classical.propDecidable _)):=by
 have e1:Z3 o (nodes s+nodes t) s t = @decide (Kp o s t) (Classical.propDecidable _):=by
  unfold Kp;cases Z3 o (nodes s+nodes t) s t<;>simp
 have e2:Z3 o (nodes s+nodes t) t s = @decide (Kp o t s) (Classical.propDecidable _):=by
  rw [jdG o (nodes s+nodes t) (nodes t+nodes s) t s (by omega) (kz _)];unfold Kp;cases Z3 o (nodes t+nodes s) t s<;>simp
 unfold jay;rw [e1,e2]
def rbI (c:Int):Int:=if c=2 then 3 else if c=3 then 2 else c
open Classical in
open Classical in
theorem jyh {R:T->T->Prop} {s t:T} (hir:∀x,¬R x x):jbG (dq s t) (decide (R s t)) (decide (R t s))=2↔R s t:=by
 unfold jbG;cases hd:dq s t
 ·by_cases h1:R s t
  ·simp [h1]
  ·by_cases h2:R t s<;>simp [h1,h2]
 ·have:=qz.1 hd;subst this;simp [hir s]
theorem jDo (o:Ord') (s t:T):jay o s t=2↔Kp o s t:=by
 rw [jv1];exact jyh (R:=Kp o) (jFy o)
def look:List (List UInt8 × T)->List UInt8->Option T
 | [],_=>none
 | p::u,n=>if p.1=n then some p.2 else look u n
def Js (u:List (List UInt8 × T)) (n:List UInt8):T:=(look u n).getD (.mk n [])
mutual
def sub (u:List (List UInt8 × T)):T->T
 | .mk n us=>if jp n then Js u n else .mk n (jxh u us)
def jxh (u:List (List UInt8 × T)):List T->List T
 | []=>[]
 | t::ts=>sub u t::jxh u ts
end
theorem jri (u:List (List UInt8 × T)):∀ts:List T,jxh u ts=ts.map (sub u)
 | []=>rfl
 | t::ts=>by rw [jxh,jri u ts,zf]
theorem Jk {u:List (List UInt8 × T)} {t:T} (h:jp t.name=true):sub u t=Js u t.name:=by
 obtain ⟨n,us⟩:=t;have h:jp n=true:=h;show (if jp n then Js u n else T.mk n (jxh u us))=_;rw [jg h];rfl
theorem qE {u:List (List UInt8 × T)} {t:T} (h:jp t.name=false):sub u t = .mk t.name (t.args.map (sub u)):=by
 obtain ⟨n,us⟩:=t;have h:jp n=false:=h;show (if jp n then Js u n else T.mk n (jxh u us))=_;rw [h,jf j7,jri];rfl
theorem jcj {u:List (List UInt8 × T)} {t:T} (h:jp t.name=false):(sub u t).name=t.name:=by rw [qE h];rfl
theorem jag {u:List (List UInt8 × T)} {t:T} (h:jp t.name=false):(sub u t).args=t.args.map (sub u):=by rw [qE h];rfl
theorem Ja {t:T} (h:zS t=true) (hv:jp t.name=true):t.args = []:=by
 rw [yp,hv,jg rfl] at h;exact jcr.1 h
def jMj (f:List UInt8->Int):List (List UInt8)->Int
 | []=>0
 | x::l=>f x+jMj f l
theorem jBx {o:Ord'} (hv:qk o=true) {n:List UInt8} (h:o.syms.contains n=true):o.var<=jhm o n:=by
 obtain ⟨k,hk,hlt⟩:=jeC h;obtain ⟨h1,h2,h3,h4⟩:=Qz hv;have h5:=h4 k hlt;have hlt':k < o.ws.length:=by omega
 have e:jhm o n=o.ws.getD k 0:=by simp [jhm,hk]
 rw [e];exact h5.1
theorem jHl {o:Ord'} (hv:qk o=true) {t:T} (hc:K9 o.syms t=true):o.var<=wt o t:=by
 have hc':=hc;rw [Kn,jy] at hc';have hb:=(jaj hv hc'.2).1;rw [jrJ];cases hn:jp t.name with
 | true=>simp only [Jw];omega
 | false=>
  have hcn:=hc'.1;rw [hn,zF] at hcn;have:=jBx hv hcn;simp only [Zi,K6];omega
abbrev bc (p:List UInt8 × T):List A:=[sv p.1,sv p.2.name,.sl 2 (p.2.args.map jo)]
abbrev K8 (u:List (List UInt8 × T)):A:= .sl 3 (u.map bc)
abbrev sb (u:List (List UInt8 × T)):A:= .agg [K8 u]
theorem YV (p:List UInt8 × T):ky 2 (.elt (bc p) 1)=some (tm p.2):=rfl
theorem yA (p:List UInt8 × T):kN (.elt (bc p) 0)=some (sv p.1):=rfl
theorem qC (p:List UInt8 × T) (n:Nat):qi (.elt (bc p) 0) n=some (.elt (bc p) n):=by rw [qV,yd]
def Sz (z:Nat) (u:List (List UInt8 × T)):Prop:=u.length<=z/\ ∀p∈u,p.1.length<=z/\tsz p.2<=z
theorem jli (u:List (List UInt8 × T)) (hl:u.length<=1048576) (n:List UInt8):(look u n=none/\G 141 [sb u,sv n]=some (vi (-1),[]))\/ ∃k,∃h:k < u.length,look u n=some u[k].2/\G 141 [sb u,sv n]=some (vi (k:Nat),[]):=by
 have key:=upto (P:=λi=>(look (u.drop i) n=none/\jhZ (sv n) (vi i) (K8 u)=some (vi (-1),[]))\/ ∃k,∃h:k < u.length,look (u.drop i) n=some u[k].2/\jhZ (sv n) (vi i) (K8 u)=some (vi (k:Nat),[])) (n:=u.length) ?_ ?_ 0 (ko _)
 ·rw [jKD];exact key
 ·left;rw [kg,jzo];exact ⟨rfl,by simp only [jd]⟩
 ·intro i hi ih;have hlt:(i:Int) < ((u.length:Nat):Int):=by omega
  have h5:=js hi (by show u.length<=9223372036854775807;omega)
  rw [jzo,ji hi,look];by_cases he:u[i].1=n
  ·right;rw [jg he];exact ⟨i,hi,rfl,by simp only [jd,hlt,ja hi,qC,yA,he]⟩
  ·rw [jf he];rcases ih with ⟨h1,h2⟩|⟨k,hk,h1,h2⟩
   ·left;exact ⟨h1,by simp only [jd,hlt,ja hi,qC,yA,he,h5,h2]⟩
   ·right;exact ⟨k,hk,h1,by simp only [jd,hlt,ja hi,qC,yA,he,h5,h2]⟩
theorem Ku (u:List (List UInt8 × T)) (hu:Sz 1048576 u) (t:T):tsz t<=1048576->G 99 [sb u,tm t]=some (tm (sub u t),[]):=by
 refine T.ind (p:=λt=>tsz t<=1048576->G 99 [sb u,tm t]=some (tm (sub u t),[])) ?_ t;intro t ih hs;have h:=hs;rw [kH] at h;have e1:=zK t.name (by show t.name.length<=9223372036854775807;omega);rw [g99];cases hv:jp t.name<;>rw [hv] at e1
 ·have key:=(upto (P:=λi=>jut (vi i) (K8 u) (sv t.name) (jH t.args) (sv []) (sv t.name) [] (((t.args.map (sub u)).take i).map jo)=some (tm (sub u t),[])) (n:=t.args.length) ?_ ?_ 0 (ko _))
  ·simp only [kU,jal,ql] at key;simp only [jd,e1,key]
  ·rw [jFd,Zd (by rw [kj];omega),qE hv]
   simp only [jd];rfl
  ·intro i hi ih';have hlt:(i:Int) < ((t.args.length:Nat):Int):=by omega
   have h5:=js hi (by show t.args.length<=9223372036854775807;omega)
   have e2:=ih t.args[i] (jC _) (by have:=y7 (jC hi);omega)
   have hf:jA (i+1) 40=true:=jjp (by omega);have hi2:i < (t.args.map (sub u)).length:=by rw [kj];exact hi
   have hl:(((t.args.map (sub u)).take i).map jo).length=i:=by rw [kj,Ky,kj];omega
   have ha:jW (((t.args.map (sub u)).take i).map jo) [[sv (sub u t.args[i]).name,jH (sub u t.args[i]).args]]=((t.args.map (sub u)).take (i+1)).map jo:=by
    rw [show [sv (sub u t.args[i]).name,jH (sub u t.args[i]).args]=jo (sub u t.args[i]) from (kG _).symm,jho,kO hi2,zy,jcs];rfl
   generalize ((t.args.map (sub u)).take i).map jo=R at *;rw [jFd];simp only [jd,hlt,ja hi,je,e2,hl,hf,ha,h5,ih']
 ·rw [Jk hv,Js];rcases jli u hu.1 t.name with ⟨h1,h2⟩|⟨k,hk,h1,h2⟩
  ·rw [h1];simp only [jd,e1,h2];rfl
  ·rw [h1];have hm:=hu.2 _ (jC hk);have e3:=Z5 u[k].2 hm.2;have hk0:(0:Int)<=((k:Nat):Int):=by omega
   simp only [jd,e1,h2,hk0,ja hk,qC,YV,e3,jBO]
theorem jqd:∀ {u:List (List UInt8 × T)} {n:List UInt8} {r:T},look u n=some r-> ∃p∈u,p.2=r
 | p::u,n,r,h=>by
  rw [look] at h;by_cases e:p.1=n
  ·rw [jg e] at h;cases h;exact ⟨p,by simp,rfl⟩
  ·rw [jf e] at h;obtain ⟨q,hq,h⟩:=jqd h;exact ⟨q,by simp [hq],h⟩
theorem jBt {u:List (List UInt8 × T)} {Z:Nat} (hZ:1<=Z) (hu:∀p∈u,tsz p.2<=Z):∀t:T,tsz (sub u t)<=tsz t * Z:=by
 refine T.ind λt ih=> ?_;have hmul:∀n:Nat,n<=n * Z:=λn=>Nat.le_mul_of_pos_right n hZ;cases hv:jp t.name
 ·have hL:∀ts:List T,(∀v∈ts,tsz (sub u v)<=tsz v * Z)->Jd (ts.map (sub u))<=Jd ts * Z:=by
   intro ts;induction ts with
   | nil=>intro _;simp [Jd]
   | cons v vs ih2=>
    intro h;have h1:=h v (by simp);have h2:=ih2 λw hw=>h w (by simp [hw]);simp only [zf,Jd,yF];omega
  have h1:=hL t.args ih;have h2:=hmul t.name.length;have h3:=hmul t.args.length;rw [kH t,kH (sub u t),jcj hv,jag hv,kj,yF,yF];omega
 ·rw [Jk hv,Js];have h1:1<=t.name.length:=by
   cases hn:t.name with
   | nil=>rw [hn] at hv;cases hv
   | cons c r=>simp
  have h2:=kH t;cases hlk:look u t.name with
  | none=>
   have:=hmul t.name.length;show tsz (.mk t.name [])<=_;rw [Kd,h2,yF,yF];simp only [yw,Jd];omega
  | some r=>
   obtain ⟨p,hp,rfl⟩:=jqd hlk;have h3:=hu p hp;show tsz p.2<=_;have h4:1 * Z<=tsz t * Z:=jbg Z (by omega);omega
abbrev jw:=List (List UInt8 × T)
mutual
noncomputable def mt (m:jw) (p:T) (t:T):Option jw:=
 match p with
 | .mk n us=>if jp n then (match look m n with|some r=>if dq r t then some m else none|none=>some (m++[(n,t)]))
   else if n=t.name/\us.length=t.args.length then Q8 m us t.args else none
termination_by structural p
noncomputable def Q8 (m:jw) (ps:List T) (ts:List T):Option jw:=
 match ps with
 | []=>some m
 | u::us=>(match ts with | []=>some m|t::ts=>(mt m u t).bind λm'=>Q8 m' us ts)
termination_by structural ps
end
theorem jdM {m:jw} {p t:T} (h:jp p.name=true):mt m p t=(match look m p.name with|some r=>if dq r t then some m else none|none=>some (m++[(p.name,t)])):=by
 obtain ⟨n,us⟩:=p;have h:jp n=true:=h;simp only [mt,h,Jw,T.name]
theorem jdL {m:jw} {p t:T} (h:jp p.name=false):mt m p t=if p.name=t.name/\p.args.length=t.args.length then Q8 m p.args t.args else none:=by
 obtain ⟨n,us⟩:=p;have h:jp n=false:=h;simp only [mt,h,Zi,K6];rfl
theorem jbZ:∀(u v:jw) (n:List UInt8),look (u++v) n=(match look u n with|some r=>some r|none=>look v n)
 | [],v,n=>rfl
 | p::u,v,n=>by
  rw [K5,look,look];by_cases h:p.1=n
  ·rw [jg h,jg h]
  ·rw [jf h,jf h];exact jbZ u v n
theorem JZ {u:jw} {n:List UInt8} :look u n=none↔ ∀p∈u,p.1≠n:=by
 induction u with
 | nil=>simp [look]
 | cons p u ih=>
  rw [look];by_cases h:p.1=n
  ·rw [jg h];simp [h]
  ·rw [jf h,ih];simp [h]
theorem JY:∀ {u:jw} {n:List UInt8} {r:T},look u n=some r->(n,r)∈u
 | p::u,n,r,h=>by
  rw [look] at h;by_cases e:p.1=n
  ·rw [jg e] at h;cases h;rw [<-e];simp
  ·rw [jf e] at h;exact JR _ (JY h)
def MOk (p:T->Prop) (m:jw):Prop:=(m.map Prod.fst).Nodup/\(∀q∈m,jp q.1=true/\p q.2)
theorem MOk.nil (p:T->Prop):MOk p []:=⟨by simp,λq h=>by cases h⟩
theorem MOk.push {p:T->Prop} {m:jw} (h:MOk p m) {n:List UInt8} {t:T} (hn:jp n=true) (ht:p t) (hl:look m n=none):MOk p (m++[(n,t)]):=by
 refine ⟨?_,λq hq=> ?_⟩
 ·rw [zy,jke];refine ⟨h.1,by simp,λa ha b hb=> ?_⟩;simp only [zf,ql,ku] at hb;subst hb;obtain ⟨q,hq,rfl⟩:=zN.1 ha;exact JZ.1 hl q hq
 ·rcases kZ.1 hq with hq|hq
  ·exact h.2 q hq
  ·simp only [ku] at hq;subst hq;exact ⟨hn,ht⟩
theorem jlo {p:T->Prop} (hp:∀t,p t-> ∀u∈t.args,p u):∀(a:T) {m m':jw} {t:T},MOk p m->p t->mt m a t=some m'->MOk p m':=by
 refine T.ind (p:=λa=>∀ {m m':jw} {t:T},MOk p m->p t->mt m a t=some m'->MOk p m') λa ih=> ?_;intro m m' t hm ht h;cases hv:jp a.name with
 | true=>
  rw [jdM hv] at h;split at h
  ·split at h
   ·cases h;exact hm
   ·cases h
  ·rename_i hl;cases h;exact hm.push hv ht hl
 | false=>
  rw [jdL hv] at h;split at h
  ·have key:∀(us:List T) (ts:List T) {m m':jw},(∀u∈us,u∈a.args)->(∀u∈ts,p u)->MOk p m->Q8 m us ts=some m'->MOk p m':=by
    intro us;induction us with
    | nil=>intro ts m m' _ _ hm h;simp only [Q8,zg] at h;exact h ▸ hm
    | cons u us ih2=>
     intro ts m m' hu hts hm h;cases ts with
     | nil=>simp only [Q8,zg] at h;exact h ▸ hm
     | cons s ts=>
      simp only [Q8] at h;obtain ⟨m1,h1,h2⟩:=zI.1 h;exact ih2 ts (λx hx=>hu x (by simp [hx])) (λx hx=>hts x (by simp [hx])) (ih u (hu u (by simp)) hm (hts s (by simp)) h1) h2
   exact key a.args t.args (λ_ h=>h) (hp t ht) hm h
  ·cases h
def YW (s:jw) (n:List UInt8) (t:T):jw:=s.takeWhile (λp=>yX p.1 n)++(n,t)::s.dropWhile (λp=>yX p.1 n)
def Kk (s:jw) (n:List UInt8) (t:T):jw:=if t.name=n then s else YW s n t
def Ka (m:jw):jw:=m.foldl (λs p=>Kk s p.1 p.2) []
theorem jaW (a:List UInt8):yX a a=false:=by
 unfold yX;cases h:Op.bytesLess a a with
 | false=>rfl
 | true=>
  exfalso;induction a with
  | nil=>simp [Op.bytesLess] at h
  | cons c r ih=>simp [Op.bytesLess] at h;exact ih h
theorem jwv (n:List UInt8) (t:T) (x:List UInt8):∀s:jw,look (YW s n t) x=if n=x then some t else look s x:=by
 intro s;unfold YW;induction s with
 | nil=>simp [look]
 | cons p s ih=>
  cases hl:yX p.1 n with
  | true=>
   rw [jvS (p:=λp:List UInt8 × T=>yX p.1 n) hl,jBP (p:=λp:List UInt8 × T=>yX p.1 n) hl,K5,look,ih,look];by_cases h1:p.1=x
   ·rw [jg h1,jg h1];have:n≠x:=λe=>by rw [h1,<-e,jaW] at hl;cases hl
    rw [jf this]
   ·rw [jf h1,jf h1]
  | false=>
   rw [jrK (p:=λp:List UInt8 × T=>yX p.1 n) (by simp [hl]),jvR (p:=λp:List UInt8 × T=>yX p.1 n) (by simp [hl]),Ju,look]
theorem jlm (s:jw) (n:List UInt8) (t:T) (x:List UInt8):look (Kk s n t) x=if n=x/\t.name≠x then some t else look s x:=by
 unfold Kk;by_cases h:t.name=n
 ·rw [jg h];by_cases h2:n=x
  ·rw [jf (λh3=>h3.2 (h.trans h2))]
  ·rw [jf (λh3=>h2 h3.1)]
 ·rw [jf h,jwv];by_cases h2:n=x
  ·rw [jg h2,jg ⟨h2,λe=>h (e.trans h2.symm)⟩]
  ·rw [jf h2,jf (λh3=>h2 h3.1)]
theorem ji7 (x:List UInt8):∀(m s:jw),(m.map Prod.fst).Nodup->look (m.foldl (λs p=>Kk s p.1 p.2) s) x=(match look m x with|some t=>if t.name=x then look s x else some t|none=>look s x)
 | [],s,_=>rfl
 | p::m,s,hn=>by
  rw [zf,jj9] at hn;rw [Km,ji7 x m _ hn.2,look];by_cases h:p.1=x
  ·have:look m x=none:=JZ.2 λq hq e=>hn.1 (by rw [h,<-e];exact List.mem_map_of_mem hq)
   rw [this,jg h];show look (Kk s p.1 p.2) x=if p.2.name=x then look s x else some p.2;rw [jlm];by_cases h2:p.2.name=x
   ·rw [jg h2,jf (λh3=>h3.2 h2)]
   ·rw [jf h2,jg ⟨h,h2⟩]
  ·rw [jf h];have e:look (Kk s p.1 p.2) x=look s x:=by rw [jlm,jf (λh3=>h h3.1)]
   rw [e]
theorem jtH {m:jw} (hm:MOk (λt=>zS t=true) m) {x:List UInt8} (hx:jp x=true):Js (Ka m) x=Js m x:=by
 unfold Js Ka;rw [ji7 x m [] hm.1];cases h:look m x with
 | none=>rfl
 | some t=>
  show Option.getD (if t.name=x then look [] x else some t) _=t;by_cases h2:t.name=x
  ·rw [jg h2];have hk:=(hm.2 _ (JY h)).2;have ha:=Ja hk (by rw [h2];exact hx);show T.mk x []=t;rw [<-h2,<-ha,T.eta]
  ·rw [jf h2];rfl
theorem jxi {u v:jw} (h:∀x,jp x=true->Js u x=Js v x):∀t:T,sub u t=sub v t:=by
 refine T.ind λt ih=> ?_;cases hv:jp t.name with
 | true=>rw [Jk hv,Jk hv,h _ hv]
 | false=>rw [qE hv,qE hv,K3 ih]
theorem jxj {m:jw} (hm:MOk (λt=>zS t=true) m) (t:T):sub (Ka m) t=sub m t:=jxi (λ_ hx=>jtH hm hx) t
theorem jAs (n:List UInt8) (h:jp n=true):zS (.mk n [])=true:=by rw [yp];show (if jp n then _ else _)=true;rw [jg h];rfl
theorem Y5 {u:jw} (hu:∀q∈u,zS q.2=true):∀t:T,zS t=true->zS (sub u t)=true:=by
 refine T.ind λt ih hk=> ?_;cases hv:jp t.name with
 | true=>
  rw [Jk hv,Js];cases h:look u t.name with
  | none=>exact jAs _ hv
  | some r=>exact hu _ (JY h)
 | false=>
  have hk':=hk;rw [yp,hv,jf j7,jy,jy,qU] at hk;rw [yp,jcj hv,hv,jf j7,jag hv,jy,jy,qU];refine ⟨hk.1,by simpa using hk.2.1,?_⟩;rw [List.all_map,qn];intro a ha;exact ih a ha (qn.1 hk.2.2 a ha)
def JD (r:T):T:=r.args.getD 0 (.mk [] [])
def Zb (r:T):T:=r.args.getD 1 (.mk [] [])
noncomputable def JC:List T->T->Option T
 | [],_=>none
 | r::rs,t=>(match mt [] (JD r) t with|some m=>some (sub m (Zb r))|none=>JC rs t)
mutual
noncomputable def YS (rs:List T) (root:Bool):T->Option T
 | .mk n us=>(match KV rs us with|some us'=>some (.mk n us')|none=>if root then JC rs (.mk n us) else none)
noncomputable def KV (rs:List T):List T->Option (List T)
 | []=>none
 | t::ts=>(match YS rs true t with|some t'=>some (t'::ts)|none=>(KV rs ts).map (t::·))
end
theorem jaN (rs:List T) (root:Bool) (t:T):YS rs root t=(match KV rs t.args with|some us=>some (.mk t.name us)|none=>if root then JC rs t else none):=by cases t;rfl
def atT:List Nat->T->T
 | [],t=>t
 | i::p,t=>atT p (t.args.getD i (.mk [] []))
def ze (s:T):List Nat->T->T
 | [],_=>s
 | i::p,t=> .mk t.name (t.args.set i (ze s p (t.args.getD i (.mk [] []))))
mutual
def jab:T->List (List Nat)
 | .mk _ us=>Qt 0 us++[[]]
def Qt (i:Nat):List T->List (List Nat)
 | []=>[]
 | t::ts=>(jab t).map (i::·)++Qt (i+1) ts
end
theorem jqI (t:T):jab t=Qt 0 t.args++[[]]:=by cases t;rfl
theorem jeF {α β γ:Type} (f:β->Option γ) (g:α->β):∀l:List α,(l.map g).findSome? f=l.findSome? (λa=>f (g a))
 | []=>rfl
 | a::l=>by rw [zf,jcz,jcz,jeF f g l]
theorem jbM {α β:Type} {f g:α->Option β} :∀ {l:List α},(∀a∈l,f a=g a)->l.findSome? f=l.findSome? g
 | [],_=>rfl
 | a::l,h=>by rw [jcz,jcz,h a (by simp),jbM λb hb=>h b (by simp [hb])]
theorem jdi {α β γ:Type} (f:α->Option β) (g:β->γ):∀l:List α,l.findSome? (λa=>(f a).map g)=(l.findSome? f).map g
 | []=>rfl
 | a::l=>by
  rw [jcz,jcz];cases h:f a with
  | none=>exact jdi f g l
  | some b=>rfl
noncomputable def Y4 (rs:List T) (root:Bool) (t:T) (p:List Nat):Option T:=if p = []/\root=false then none else (JC rs (atT p t)).map λs=>ze s p t
theorem jwD (rs:List T):∀(t:T) (root:Bool),(jab t).findSome? (Y4 rs root t)=YS rs root t:=by
 refine T.ind λt ih root=> ?_;have hL:∀(us:List T) (i:Nat),(∀u∈us,u∈t.args)->t.args.drop i=us->(Qt i us).findSome? (Y4 rs root t)=(KV rs us).map λus'=> .mk t.name (t.args.take i++us'):=by
  intro us;induction us with
  | nil=>intro i _ _;rfl
  | cons u us ih2=>
   intro i hu hd;have hi:i < t.args.length:=by
    rcases ja3 i t.args.length with h|h
    ·exact h
    ·rw [jmi h] at hd;cases hd
   have hui:t.args.getD i (.mk [] [])=u:=by
    rw [zY];have:=congrArg (λl=>l[0]?) hd;simp only [QQ,j9,jM] at this;rw [this];rfl
   have hd2:t.args.drop (i+1)=us:=by
    have:=congrArg (λl=>l.drop 1) hd;simpa [jrM,Nat.add_comm] using this
   rw [Qt,List.findSome?_append,jeF,KV];have e1:(jab u).findSome? (λp=>Y4 rs root t (i::p))=(YS rs true u).map λu'=> .mk t.name (t.args.set i u'):=by
    rw [<-ih u (hu u (by simp)) true,<-jdi];refine jbM λp _=> ?_;unfold Y4;rw [jf (by simp),jf (by simp),atT,hui];cases JC rs (atT p u) with
    | none=>rfl
    | some s=>show some (ze s (i::p) t)=some (T.mk t.name (t.args.set i (ze s p u)));rw [ze,hui]
   rw [e1];cases ho:YS rs true u with
   | some u'=>
    show some (T.mk t.name (t.args.set i u'))=some (T.mk t.name (t.args.take i++u'::us));rw [List.set_eq_take_append_cons_drop,jg hi,hd2]
   | none=>
    show (Qt (i+1) us).findSome? (Y4 rs root t)=_;rw [ih2 (i+1) (λx hx=>hu x (by simp [hx])) hd2];cases KV rs us with
    | none=>rfl
    | some us'=>
     show some (T.mk t.name (t.args.take (i+1)++us'))=some (T.mk t.name (t.args.take i++u::us'));have:t.args.take (i+1)=t.args.take i++[u]:=by
      rw [jho];congr 1;have h0:t.args[i]? = some u:=by
       have:=congrArg (λl=>l[0]?) hd;simpa using this
      rw [h0];rfl
     rw [this,yv];rfl
 rw [jqI,List.findSome?_append,hL t.args 0 (λ_ h=>h) rfl,jaN];cases KV rs t.args with
 | some us=>rfl
 | none=>
  show ([[]]:List (List Nat)).findSome? (Y4 rs root t)=(if root=true then JC rs t else none);rw [jcz];unfold Y4;cases root with
  | false=>rfl
  | true=>
   rw [jf (by simp),jg rfl];rw [atT];cases JC rs t<;>rfl
def jat (rs:List T):Prop:=∀r∈rs,zS (JD r)=true/\zS (Zb r)=true
theorem jq0 {t:T} (ht:zS t=true):∀ {rs:List T} {u:T},jat rs->JC rs t=some u->zS u=true
 | r::rs,u,hr,h=>by
  rw [JC] at h;split at h
  ·rename_i m hm;cases h;have hM:=jlo (p:=λt=>zS t=true) (λt ht u hu=>by
    cases hv:jp t.name with
    | true=>rw [Ja ht hv] at hu;cases hu
    | false=>
     rw [yp,hv,jf j7,jy,jy,qU] at ht;exact qn.1 ht.2.2 u hu) _ (MOk.nil _) ht hm
   exact Y5 (λq hq=>(hM.2 q hq).2) _ (hr r (by simp)).2
  ·exact jq0 ht (λq hq=>hr q (by simp [hq])) h
theorem jaM {rs:List T} :∀ {us us':List T},KV rs us=some us'->us'.length=us.length/\ ∀p:T->Prop,(∀u∈us,p u)->(∀u∈us,∀u',YS rs true u=some u'->p u')-> ∀u∈us',p u
 | t::ts,us',h=>by
  rw [KV] at h;split at h
  ·rename_i t' ht;cases h;refine ⟨by simp,λp h1 h2 u hu=> ?_⟩;rcases jZ.1 hu with rfl|hu
   ·exact h2 t (by simp) _ ht
   ·exact h1 u (by simp [hu])
  ·rw [yB] at h;obtain ⟨r,h3,rfl⟩:=h;obtain ⟨g1,g2⟩:=jaM h3;refine ⟨by simp [g1],λp h1 h2 u hu=> ?_⟩;rcases jZ.1 hu with rfl|hu
   ·exact h1 _ (by simp)
   ·exact g2 p (λu hu=>h1 u (by simp [hu])) (λu hu=>h2 u (by simp [hu])) u hu
theorem jvh {rs:List T} (hr:jat rs):∀(t:T) {u:T},zS t=true->YS rs true t=some u->zS u=true:=by
 refine T.ind (p:=λt=>∀ {u:T},zS t=true->YS rs true t=some u->zS u=true) λt ih=> ?_;intro u ht h;rw [jaN] at h;split at h
 ·rename_i us ho;cases h;obtain ⟨g1,g2⟩:=jaM ho;cases hv:jp t.name with
  | true=>
   rw [Ja ht hv] at ho;cases ho
  | false=>
   have ha:=zj ht;rw [yp,hv,jf j7,jy,jy] at ht;rw [yp];show (if jp t.name then _ else y5 t.name && (decide (us.length<=4) && jc9 us))=true;rw [hv,jf j7,jy,jy,g1,qU,qn];exact ⟨ht.1,ht.2.1,g2 _ ha λu hu u' hu'=>ih u hu (ha u hu) hu'⟩
 ·exact jq0 ht hr h
noncomputable def rwN (rs:List T) (root:Bool):Nat->Nat->T->Option (T × Nat)
 | 0,_,_=>none
 | k+1,n,t=>(match YS rs root t with
  | none=>some (t,n)
  | some u=>if k=0\/jD u=false then none else rwN rs root k (n+1) u)
end Go.Proofs.YtbgikpffkgjecaaGreatDoor
