/- Pa -/
import Derived.Test.YtoaifmomhaneiaaGreatDoorKt
import Derived.Test.YtoaifmomhaneiaaGreatDoorPq
import Derived.Test.YtoaifmomhaneiaaGreatDoorEd
import Derived.ChangeSame
namespace Go.Proofs.YtoaifmomhaneiaaGreatDoor
open Go Go.RowKit Go.Proofs.YtoaifmomhaneiaaGreatDoor.Abs
set_option linter.unusedSimpArgs false
set_option linter.unusedVariables false
abbrev ci (n:Int):List A:=[vi n]
abbrev cs (s:List UInt8):List A:=[sv s]
abbrev ints (l:List Int):A:= .sl 1 (l.map ci)
abbrev strs (l:List (List UInt8)):A:= .sl 1 (l.map cs)
section
theorem jfs {α:Type} (x y:α):brn true x y=x:=rfl
theorem Yz {α:Type} (x y:α):brn false x y=y:=rfl
theorem jBj {α:Type} (b:Bool) (x y:α):brn b x y=if b=true then x else y:=rfl
theorem juU:(-1:Int) < 0:=by decide
theorem YX (b:Bool):yR (vb b)=some b:=rfl
theorem jkj (b:Bool) (x y:A):Kr (vb b) x y=some (if b=true then x else y):=rfl
theorem jz7 (b w:Bool) (x:Option A):pG (vb b) w x=if b=w then x else some (.val undef):=rfl
theorem jrp (b w:Bool):ZK (vb b) w=some (decide (b=w)):=rfl
theorem jz6 (w:Bool) (x:Option A):pG (.val undef) w x=some (.val undef):=rfl
theorem jro (w:Bool):ZK (.val undef) w=some false:=rfl
theorem jz8 (k:Nat) (xs:List (List A)):kE (.sl k xs)=some (vi xs.length):=rfl
theorem Ys (xs:List (List A)):yX xs=vi xs.length:=rfl
theorem jks (xs:List (List A)):jl xs=xs.length:=rfl
theorem jdj (l:List UInt8):jmq (sv l)=some (vi l.length):=rfl
theorem jqe (a:A):fin false (a,[])=some a:=rfl
theorem jEf (b c:Bool):fin c (vb b,[])=some (vb b):=by cases c<;>rfl
theorem jEg (c:Bool) (n:Int):fin c (vi n,[])=some (vi n):=by cases c<;>rfl
theorem jBY (b:Bool):qC .not (vb b)=some (vb (!b)):=rfl
theorem jfS (b:Bool) (x y:Int):jr .lss b (vi x) (vi y)=some (vb (decide (x < y))):=rfl
theorem jz2 (b:Bool) (x y:Int):jr .leq b (vi x) (vi y)=some (vb (decide (x<=y))):=rfl
theorem jdi (b:Bool) (x y:Int):jr .gtr b (vi x) (vi y)=some (vb (decide (y < x))):=rfl
theorem jz1 (b:Bool) (x y:Int):jr .geq b (vi x) (vi y)=some (vb (decide (y<=x))):=rfl
theorem jrh (b:Bool) (x y:Int):jr .eql b (vi x) (vi y)=some (vb (decide (x=y))):=rfl
theorem jz4 (b:Bool) (x y:Int):jr .neq b (vi x) (vi y)=some (vb (!decide (x=y))):=rfl
theorem jwc (b:Bool) (x y:Int):jr .lss b (vy x) (vy y)=some (vb (decide (x < y))):=rfl
theorem jwb (b:Bool) (x y:Int):jr .leq b (vy x) (vy y)=some (vb (decide (x<=y))):=rfl
theorem jwa (b:Bool) (x y:Int):jr .gtr b (vy x) (vy y)=some (vb (decide (y < x))):=rfl
theorem jv9 (b:Bool) (x y:Int):jr .geq b (vy x) (vy y)=some (vb (decide (y<=x))):=rfl
theorem jv8 (b:Bool) (x y:Int):jr .eql b (vy x) (vy y)=some (vb (decide (x=y))):=rfl
theorem jwd (b:Bool) (x y:Int):jr .neq b (vy x) (vy y)=some (vb (!decide (x=y))):=rfl
theorem jwe (x y:Bool):jr .eql true (vb x) (vb y)=some (vb (decide (x=y))):=rfl
theorem jwf (x y:Bool):jr .neq true (vb x) (vb y)=some (vb (!decide (x=y))):=rfl
theorem KO (b:Bool) (x y:Int):jr .add b (vi x) (vi y)=ck (x+y):=by cases b<;>rfl
theorem jri (b:Bool) (x y:Int):jr .sub b (vi x) (vi y)=ck (x - y):=by cases b<;>rfl
theorem jz3 (b:Bool) (x y:Int):jr .mul b (vi x) (vi y)=ck (x * y):=by cases b<;>rfl
theorem jZ {n:Int} (h1: -9223372036854775808<=n) (h2:n<=9223372036854775807):ck n=some (vi n):=jp ⟨h1,h2⟩
theorem jgZ (b:Bool) (x y:List UInt8):jr .add b (sv x) (sv y)=if x.length+y.length<=9223372036854775807 then some (sv (x++y)) else none:=by cases b<;>rfl
theorem jg0 (b:Bool) (x y:List UInt8):jr .eql b (sv x) (sv y)=some (vb (decide (x=y))):=rfl
theorem jwj (b:Bool) (x y:List UInt8):jr .neq b (sv x) (sv y)=some (vb (!decide (x=y))):=rfl
theorem jwi (b:Bool) (x y:List UInt8):jr .lss b (sv x) (sv y)=some (vb (yT x y)):=rfl
theorem jAa (a:A) (l:List A):kq (.elt (a::l) 0)=some a:=rfl
theorem qp (cs:List A) (off n:Nat):yI (.elt cs off) n=some (.elt cs (off+n)):=rfl
theorem jtA (off:Nat) (cs:List A):jkg off (.agg cs)=cs[off]? :=rfl
theorem jtz (n:Nat) (ds:List A):jeV n (.agg ds)=if ds.length=n/\ds.all jR=true then some ds else none:=rfl
theorem jvA (a:A) (l:List A):jb (a::l) 0=a:=rfl
theorem jxu (a b:A) (l:List A):jb (a::b::l) 1=b:=rfl
theorem jxv (a b c:A) (l:List A):jb (a::b::c::l) 2=c:=rfl
theorem jsQ (a b c d:A) (l:List A):jb (a::b::c::d::l) 3=d:=rfl
theorem jtv (k:Nat) (xs:List (List A)):jR (.sl k xs)=true:=rfl
theorem jBP (cs:List A) (o:Nat):jR (.elt cs o)=true:=rfl
theorem jEF (f:FuncId) (l:List A):jR (.fn f l)=true:=rfl
theorem jEI (n:Int):jR (vi n)=true:=rfl
theorem jEH (b:Bool):jR (vb b)=true:=rfl
theorem jEG (l:List UInt8):jR (sv l)=true:=rfl
theorem jEK (n:Nat) (i:Int):QI n (vi i)=if 0<=i/\i < (n:Int) then some i.toNat else none:=rfl
theorem yp {n i:Nat} (h:i < n):QI n (vi i)=some i:=by
 rw [jEK,jp ⟨by omega,by omega⟩];simp
theorem jAc (k:Nat) (xs:List (List A)):jhX k (.sl k xs)=some xs:=jp rfl
theorem jEO (a:A) (l:List A):jaV (.tup (a::l)) 0=some a:=rfl
theorem jEP (a b:A) (l:List A):jaV (.tup (a::b::l)) 1=some b:=rfl
theorem jEQ (a b c:A) (l:List A):jaV (.tup (a::b::c::l)) 2=some c:=rfl
theorem jBW (x y:Int):jrl (vi x) (vi y)=some (vi (if x < y then y else x)):=by
 unfold jrl;simp
theorem jBX (x y:Int):jwm (vi x) (vi y)=some (vi (if y < x then y else x)):=by
 unfold jwm;simp
theorem jFV (a:A) (l:List A) (i:Nat):hD (a,l) i=l[i]? :=rfl
theorem jMV (k:Nat) (a:A) (xs:List (List A)) (l:List A):hR k (a,.sl k xs::l) 0=some xs:=by simp [hR]
theorem jMW (k:Nat) (a b:A) (xs:List (List A)) (l:List A):hR k (a,b:: .sl k xs::l) 1=some xs:=by simp [hR]
theorem jMX (k:Nat) (a b c:A) (xs:List (List A)) (l:List A):hR k (a,b::c:: .sl k xs::l) 2=some xs:=by simp [hR]
theorem qD {f:FuncId} {caps args:List A} {c:Bool} (h:K.pureF f=true):DX.run K (MM K) (.callc (.fn f caps) args c)=(G f (args++caps)).bind (fin c):=by
 simp only [DX.run,h,Jk]
theorem ja {α:Type} {k:Nat} {f:α->List A} {xs:List α} {i:Nat} (h:i < xs.length):jg k (.sl k (xs.map f)) (vi i)=some (.elt (f xs[i]) 0):=by
 simp only [jg,Jk,jM,yp h,JG];simp [zO,h]
theorem jm {i n:Nat} (h:i < n) (hn:n<=9223372036854775807):jr .add false (vi i) (vi 1)=some (vi ((i+1:Nat):Int)):=by
 rw [KO,jZ (by omega) (by omega)];rfl
theorem jgJ {b:Int} {n:Nat} (h0:0<=b) (h1:b<=9223372036854775807) (hn:n<=9223372036854775807):ck (b - n)=some (vi (b - n)):=jZ (by omega) (by omega)
theorem jF9 (d top:Nat) (z:Int):pB d top (some (vi z))=if 0<=z/\z<=(top:Int) then some z.toNat else none:=rfl
theorem Jj {d top n:Nat} (h:n<=top):pB d top (some (vi n))=some n:=by
 rw [jF9,jp ⟨by omega,by omega⟩];simp
theorem yj {d top:Nat} (h:d<=top):pB d top none=some d:=jp h
theorem joZ (xs:List (List A)):z6 xs=xs.length:=rfl
theorem qU (xs:List (List A)) (off:Nat):zG xs off=xs.length - off:=rfl
theorem ju3 (ys:List (List A)) (n:Nat):jws ys n=vi (min ys.length n:Nat):=rfl
theorem jrC (ys:List (List A)) (n:Nat):jmw ys n=ys.take n:=rfl
theorem jfW (xs:List (List A)) (off n:Nat):zj xs off n=(xs.drop off).take n:=rfl
theorem jaX (xs:List (List A)) (off:Nat) (ys:List (List A)):qc xs off ys=xs.take off++ys++xs.drop (off+ys.length):=rfl
theorem qS (a b:Nat):j5 a b=a - b:=rfl
theorem jAb (off n:Nat) (ys xs:List (List A)):jrm off n ys xs=decide (off+n+ys.length<=xs.length):=rfl
theorem upto {P:Nat->Prop} {n:Nat} (h0:P n) (hs:∀i,i < n->P (i+1)->P i):∀i,i<=n->P i:=by
 intro i hi;obtain ⟨k,hk⟩:∃k,n=i+k:=⟨n - i,by omega⟩;induction k generalizing i with
 | zero=>rw [show i=n by omega];exact h0
 | succ k ih=>exact hs i (by omega) (ih (i+1) (by omega) (by omega))
theorem jh {α:Type} {xs:List α} {i:Nat} (h:i < xs.length):xs.drop i=xs[i]::xs.drop (i+1):=jt5 h
theorem evs :
  ((-1:Int) < 0)/\
  (∀ {α:Type} (x y:α),brn true x y=x)/\
  (∀ {α:Type} (x y:α),brn false x y=y)/\
  (∀ {α:Type} (b:Bool) (x y:α),brn b x y=if b=true then x else y)/\
  (∀ {α β:Type} (a:α) (f:α->Option β),(some a).bind f=f a)/\
  (∀ {α β:Type} (f:α->Option β),none.bind f=none)/\
  (∀(b:Bool),yR (vb b)=some b)/\
  (∀(b:Bool) (x y:A),Kr (vb b) x y=some (if b=true then x else y))/\
  (∀(b w:Bool) (x:Option A),pG (vb b) w x=if b=w then x else some (A.val undef))/\
  (∀(b w:Bool),ZK (vb b) w=some (decide (b=w)))/\
  (∀(w:Bool) (x:Option A),pG (A.val undef) w x=some (A.val undef))/\
  (∀(w:Bool),ZK (A.val undef) w=some false)/\
  (∀(k:Nat) (xs:List (List A)),kE (A.sl k xs)=some (vi ↑xs.length))/\
  (∀(xs:List (List A)),yX xs=vi ↑xs.length)/\
  (∀(xs:List (List A)),jl xs=xs.length)/\
  (∀(l:List UInt8),jmq (sv l)=some (vi ↑l.length))/\
  (∀(a:A),fin false (a,[])=some a)/\
  (∀(b c:Bool),fin c (vb b,[])=some (vb b))/\
  (∀(c:Bool) (n:Int),fin c (vi n,[])=some (vi n))/\
  (∀(b:Bool),qC UnOp.not (vb b)=some (vb !b))/\
  (∀(b:Bool) (x y:Int),jr BinOp.lss b (vi x) (vi y)=some (vb (decide (x < y))))/\
  (∀(b:Bool) (x y:Int),jr BinOp.leq b (vi x) (vi y)=some (vb (decide (x<=y))))/\
  (∀(b:Bool) (x y:Int),jr BinOp.gtr b (vi x) (vi y)=some (vb (decide (y < x))))/\
  (∀(b:Bool) (x y:Int),jr BinOp.geq b (vi x) (vi y)=some (vb (decide (y<=x))))/\
  (∀(b:Bool) (x y:Int),jr BinOp.eql b (vi x) (vi y)=some (vb (decide (x=y))))/\
  (∀(b:Bool) (x y:Int),jr BinOp.neq b (vi x) (vi y)=some (vb !decide (x=y)))/\
  (∀(b:Bool) (x y:Int),jr BinOp.lss b (vy x) (vy y)=some (vb (decide (x < y))))/\
  (∀(b:Bool) (x y:Int),jr BinOp.leq b (vy x) (vy y)=some (vb (decide (x<=y))))/\
  (∀(b:Bool) (x y:Int),jr BinOp.gtr b (vy x) (vy y)=some (vb (decide (y < x))))/\
  (∀(b:Bool) (x y:Int),jr BinOp.geq b (vy x) (vy y)=some (vb (decide (y<=x))))/\
  (∀(b:Bool) (x y:Int),jr BinOp.eql b (vy x) (vy y)=some (vb (decide (x=y))))/\
  (∀(b:Bool) (x y:Int),jr BinOp.neq b (vy x) (vy y)=some (vb !decide (x=y)))/\
  (∀(x y:Bool),jr BinOp.eql true (vb x) (vb y)=some (vb (decide (x=y))))/\
  (∀(x y:Bool),jr BinOp.neq true (vb x) (vb y)=some (vb !decide (x=y)))/\
  (∀(b:Bool) (x y:Int),jr BinOp.add b (vi x) (vi y)=ck (x+y))/\
  (∀(b:Bool) (x y:Int),jr BinOp.sub b (vi x) (vi y)=ck (x - y))/\
  (∀(b:Bool) (x y:Int),jr BinOp.mul b (vi x) (vi y)=ck (x * y))/\
  (∀(b:Bool) (x y:List UInt8),jr BinOp.eql b (sv x) (sv y)=some (vb (decide (x=y))))/\
  (∀(b:Bool) (x y:List UInt8),jr BinOp.neq b (sv x) (sv y)=some (vb !decide (x=y)))/\
  (∀(b:Bool) (x y:List UInt8),jr BinOp.lss b (sv x) (sv y)=some (vb (yT x y)))/\
  (∀(a:A) (l:List A),kq (A.elt (a::l) 0)=some a)/\
  (∀(cs:List A) (off n:Nat),yI (A.elt cs off) n=some (A.elt cs (off+n)))/\
  (∀(off:Nat) (cs:List A),jkg off (A.agg cs)=cs[off]?)/\
  (∀(n:Nat) (ds:List A),jeV n (A.agg ds)=if ds.length=n/\ds.all jR=true then some ds else none)/\
  (∀(a:A) (l:List A),jb (a::l) 0=a)/\
  (∀(a b:A) (l:List A),jb (a::b::l) 1=b)/\
  (∀(a b c:A) (l:List A),jb (a::b::c::l) 2=c)/\
  (∀(a b c d:A) (l:List A),jb (a::b::c::d::l) 3=d)/\
  (∀(k:Nat) (xs:List (List A)),jR (A.sl k xs)=true)/\
  (∀(cs:List A) (o:Nat),jR (A.elt cs o)=true)/\
  (∀(f:FuncId) (l:List A),jR (A.fn f l)=true)/\
  (∀(n:Int),jR (vi n)=true)/\
  (∀(b:Bool),jR (vb b)=true)/\
  (∀(l:List UInt8),jR (sv l)=true)/\
  (∀(k:Nat) (xs:List (List A)),jhX k (A.sl k xs)=some xs)/\
  (∀(a:A) (l:List A),jaV (A.tup (a::l)) 0=some a)/\
  (∀(a b:A) (l:List A),jaV (A.tup (a::b::l)) 1=some b)/\
  (∀(a b c:A) (l:List A),jaV (A.tup (a::b::c::l)) 2=some c)/\
  (∀(x y:Int),jrl (vi x) (vi y)=some (vi (if x < y then y else x)))/\
  (∀(x y:Int),jwm (vi x) (vi y)=some (vi (if y < x then y else x)))/\
  (∀(a:A) (l:List A) (i:Nat),hD (a,l) i=l[i]?)/\
  (∀(k:Nat) (a:A) (xs:List (List A)) (l:List A),hR k (a,A.sl k xs::l) 0=some xs)/\
  (∀(k:Nat) (a b:A) (xs:List (List A)) (l:List A),hR k (a,b::A.sl k xs::l) 1=some xs)/\
  (∀(k:Nat) (a b c:A) (xs:List (List A)) (l:List A),hR k (a,b::c::A.sl k xs::l) 2=some xs)/\
  (∀ {α:Type} {a:α} {l:List α} {f:α->Bool},(a::l).all f=(f a && l.all f))/\
  (∀ {α:Type} {f:α->Bool},([]:List α).all f=true)/\
  (∀ {α:Type} {a:α} {l:List α},(a::l).length=l.length+1)/\
  (∀ {α:Type},([]:List α).length=0)/\
  (∀ {α β:Type} {l:List α} (f:α->β),(List.map f l).length=l.length)/\
  (∀(n:Nat),0+n=n)/\
  (∀(b:Bool),(b && b)=b)/\
  (∀(b:Bool),(b && true)=b)/\
  (∀(p:Prop),(p/\p)=p)/\
  (∀ {α:Type} {_x:Decidable True} (t e:α),(if True then t else e)=t)/\
  (∀ {α:Type} {_x:Decidable False} (t e:α),(if False then t else e)=e)/\
  ((true=false)=False)/\
  ((false=true)=False)/\
  (∀(_h:Decidable True),decide True=true)/\
  (∀(_h:Decidable False),decide False=false)/\
  ((!true)=false)/\
  ((!false)=true)/\
  (∀(b:Bool),((!b)=true)=(b=false))/\
  (∀ {p:Prop} [Decidable p],(decide p=true)=p)/\
  (∀ {p:Prop} {x:Decidable p},decide p=false↔ ¬p)/\
  (∀(a:Int),¬a < a)/\
  ((¬True)=False)/\
  ((¬False)=True)/\
  (∀ {α:Type} (a b:α),(if True then a else b)=a)/\
  (∀ {α:Type} (a b:α),(if False then a else b)=b):=
 ⟨@juU,@jfs,@Yz,@jBj,@yz.{0,0},@Option.bind_none.{0,0},@YX,@jkj,@jz7,@jrp,@jz6,@jro,@jz8,@Ys,@jks,@jdj,@jqe,@jEf,@jEg,@jBY,@jfS,@jz2,@jdi,@jz1,@jrh,@jz4,@jwc,@jwb,@jwa,@jv9,@jv8,@jwd,@jwe,@jwf,@KO,@jri,@jz3,@jg0,@jwj,@jwi,@jAa,@qp,@jtA,@jtz,@jvA,@jxu,@jxv,@jsQ,@jtv,@jBP,@jEF,@jEI,@jEH,@jEG,@jAc,@jEO,@jEP,@jEQ,@jBW,@jBX,@jFV,@jMV,@jMW,@jMX,@zB.{0},@jam.{0},@yd.{0},@qM.{0},@jM.{0,0},@yc,@jdG,@ja8,@and_self,@Jk.{1},@KU.{1},@Bool.true_eq_false,@K5,@decide_true,@decide_false,@jan,@jli,@JF,@kK,@jcg,@Int.lt_irrefl,@not_true_eq_false,@not_false_eq_true,@ite_true.{1},@ite_false.{1}⟩
end
theorem jKp:(∀ {α:Type} {h:Decidable True} (a b:α),@ite α True h a b=a)/\(∀ {α:Type} {h:Decidable False} (a b:α),@ite α False h a b=b)/\(1+1=2/\1+2=3/\1+3=4/\1+4=5/\2+1=3/\2+2=4/\2+3=5/\2+4=6/\3+1=4/\3+2=5/\3+3=6/\3+4=7/\4+1=5/\4+2=6/\4+3=7/\4+4=8/\5+1=6/\5+2=7/\5+3=8/\5+4=9/\6+1=7/\6+2=8/\6+3=9/\6+4=10/\7+1=8/\7+2=9/\7+3=10/\7+4=11/\8+1=9/\8+2=10/\8+3=11/\8+4=12/\9+1=10/\9+2=11/\9+3=12/\9+4=13/\10+1=11/\10+2=12/\10+3=13/\10+4=14/\11+1=12/\11+2=13/\11+3=14/\11+4=15/\12+1=13/\12+2=14/\12+3=15/\12+4=16):=by refine ⟨?_,?_,by decide⟩<;>intros<;>simp
theorem jd:type_of% (And.intro evs (And.intro cev jKp)):=And.intro evs (And.intro cev jKp)
open Go Go.RowKit Go.ChangeShapes Go.Deep Go.Proofs.YtoaifmomhaneiaaGreatDoor.Abs
section
variable {P:Program} {t:Nat} {H:Type} {enc:TypeId × Value->H} {w:World} {base:Nat} {spare:Nat->Bool} {held:Bool} {fuel:Nat} {cs:List Value} {x:DataW H × List MemPlace}
theorem jtS {α:Type} {g0:α->List A} {p0:α->Prop} {f0:Field} {k0:Nat} (ht:P.underlying t=some (.struct #[f0]))
  (o0:f0.offset=0) (c0:P.cellsOf f0.type=k0) (c:P.cellsOf t=k0)
  (h0:∀n cs x,n < fuel->DataW.trod enc P w base spare held n f0.type cs=some x-> ∃a,p0 a/\jF w (λ_=>False) (g0 a) cs/\jC cs)
  (h:DataW.trod enc P w base spare held fuel t cs=some x):∃a,p0 a/\jF w (λ_=>False) (g0 a) cs/\jC cs:=by
 obtain ⟨xs,n,hfn,rfl,hl,hlen,hf⟩:=DataW.trod_struct ht h;have e0:=hf 0 f0 rfl;rw [o0,c0] at e0;have hlen:xs.length=1:=hlen;have hx0:xs[0]? = some xs[0]:=kh (by omega);rw [hx0] at e0;obtain ⟨a,q1,q2,q3⟩:=h0 n _ _ (by omega) e0;rw [kg,qf (by omega)] at q2 q3;exact ⟨a,q1,q2,q3⟩
theorem jkN {α β:Type} {g0:α->List A} {g1:β->List A} {p0:α->Prop} {p1:β->Prop} {f0 f1:Field} {k0 k1:Nat} (ht:P.underlying t=some (.struct #[f0,f1]))
  (o0:f0.offset=0) (o1:f1.offset=k0) (c0:P.cellsOf f0.type=k0) (c1:P.cellsOf f1.type=k1) (c:P.cellsOf t=k0+k1)
  (h0:∀n cs x,n < fuel->DataW.trod enc P w base spare held n f0.type cs=some x-> ∃a,p0 a/\jF w (λ_=>False) (g0 a) cs/\jC cs)
  (h1:∀n cs x,n < fuel->DataW.trod enc P w base spare held n f1.type cs=some x-> ∃a,p1 a/\jF w (λ_=>False) (g1 a) cs/\jC cs)
  (h:DataW.trod enc P w base spare held fuel t cs=some x):∃a b,p0 a/\p1 b/\jF w (λ_=>False) (g0 a++g1 b) cs/\jC cs:=by
 obtain ⟨xs,n,hfn,rfl,hl,hlen,hf⟩:=DataW.trod_struct ht h;have e0:=hf 0 f0 rfl;have e1:=hf 1 f1 rfl;rw [o0,c0] at e0;rw [o1,c1] at e1;have hlen:xs.length=2:=hlen;have hx0:xs[0]? = some xs[0]:=kh (by omega);have hx1:xs[1]? = some xs[1]:=kh (by omega);rw [hx0] at e0;rw [hx1] at e1;obtain ⟨a,q1,q2,q3⟩:=h0 n _ _ (by omega) e0;obtain ⟨b,r1,r2,r3⟩:=h1 n _ _ (by omega) e1;have e:cs=(cs.drop 0).take k0++(cs.drop k0).take k1:=by
  rw [qf (l:=cs.drop k0) (by simp;omega),kg,jew]
 rw [e];exact ⟨a,b,q1,r1,zu q2 r2,jC.append q3 r3⟩
end
inductive T where
 | mk (name:List UInt8) (args:List T)
def T.name:T->List UInt8 | .mk n _=>n
def T.args:T->List T | .mk _ us=>us
theorem T.eta (t:T):T.mk t.name t.args=t:=by cases t;rfl
mutual
def jw:T->List A
 | .mk n us=>[sv n,.sl 2 (jiH us)]
def jiH:List T->List (List A)
 | []=>[]
 | t::ts=>jw t::jiH ts
end
theorem jdy:∀ts:List T,jiH ts=ts.map jw
 | []=>rfl
 | t::ts=>by simp [jiH,jdy ts]
theorem zn (t:T):jw t = [sv t.name,.sl 2 (t.args.map jw)]:=by
 cases t;simp [jw,T.name,T.args,jdy]
theorem jlE (t:T):(jw t).length=2:=by rw [zn];rfl
abbrev tm (t:T):A:= .agg [sv t.name,.sl 2 (t.args.map jw)]
abbrev jQ (ts:List T):A:= .sl 2 (ts.map jw)
theorem jf (t:T):ky 2 (.elt (jw t) 0)=some (.agg [sv t.name,.sl 2 (t.args.map jw)]):=by rw [zn];rfl
mutual
def tsz:T->Nat
 | .mk n us=>n.length+us.length+Qf us
def Qf:List T->Nat
 | []=>0
 | t::ts=>tsz t+Qf ts
end
theorem kQ (t:T):tsz t=t.name.length+t.args.length+Qf t.args:=by cases t;simp [tsz,T.name,T.args]
theorem yC:∀ {ts:List T} {t:T},t∈ts->tsz t<=Qf ts
 | [],_,h=>by cases h
 | u::us,t,h=>by
  simp only [Qf];rcases kW.1 h with rfl|h
  .omega
  .have:=yC h;omega
mutual
def JO:T->Prop
 | .mk n us=>n.length<=9223372036854775807/\us.length<=9223372036854775807/\jwZ us
def jwZ:List T->Prop
 | []=>True
 | t::ts=>JO t/\jwZ ts
end
theorem kJ (t:T):JO t↔t.name.length<=9223372036854775807/\t.args.length<=9223372036854775807/\jwZ t.args:=by cases t;simp [JO,T.name,T.args]
theorem kD:∀ts:List T,jwZ ts↔ ∀t∈ts,JO t
 | []=>by simp [jwZ]
 | t::ts=>by simp [jwZ,kD ts]
theorem T.ind {p:T->Prop} (h:∀t,(∀u∈t.args,p u)->p t):∀t,p t:=by
 intro t;induction hn:SizeOf.sizeOf t using Nat.strongRecOn generalizing t with
 | ind n ih=>
  subst hn;refine h t λu hu=>ih (SizeOf.sizeOf u) ?_ u rfl;cases t with
  | mk nm us=>
   have:=List.sizeOf_lt_of_mem hu;simp only [T.args] at this;simp only [T.mk.sizeOf_spec];omega
section
variable {P:Program} {tT tS:Nat}
theorem jwu {H:Type} {enc:TypeId × Value->H} {w:World} {base:Nat} {spare:Nat->Bool} {held:Bool} {f0 f1:Field} (ht:P.underlying tT=some (.struct #[f0,f1])) (h0:P.underlying f0.type=some .string) (h1:P.underlying f1.type=some (.slice tT))
  (o0:f0.offset=0) (o1:f1.offset=1) (c0:P.cellsOf f0.type=1) (c1:P.cellsOf f1.type=1) (c2:P.cellsOf tT=2) :
  ∀(fuel:Nat) (cs:List Value) (x:DataW H × List MemPlace),DataW.trod enc P w base spare held fuel tT cs=some x-> ∃t,JO t/\jF w (λ_=>False) (jw t) cs/\jC cs:=by
 intro fuel;induction fuel using Nat.strongRecOn with
 | ind fuel ih=>
  intro cs x h;obtain ⟨xs,n,hfn,rfl,hl,hlen,hf⟩:=DataW.trod_struct ht h;have e0:=hf 0 f0 rfl;have e1:=hf 1 f1 rfl;rw [o0,c0] at e0;rw [o1,c1] at e1;rw [c2] at hl
  match cs,hl with
  | [u,v],_=>
   match xs,hlen with
   | [y0,y1],_=>
    simp only [kg,jm6,Jm,qa] at e0;simp only [jhs,kg,jm6,Jm,List.getElem?_cons_succ,qa] at e1;obtain ⟨s,hs,_,hsz⟩:=DataW.trod_string h0 e0;obtain ⟨ts,⟨hts,htl⟩,hr,ho⟩:=jr1 (P:=P) (t:=f1.type) (e:=tT) (f:=jw) (p:=JO) jlE (by decide) h1 c2 (λm cs' x' hm hx'=>ih m (by omega) cs' x' hx') e1;have hbs:∀s:ByteArray,(⟨⟨bs s⟩⟩:ByteArray)=s:=λs=>rfl;refine ⟨.mk (bs s) ts,by simp only [JO];exact ⟨by show (bs s).length<=_;rw [<-jd1];simpa [maxLen] using hsz,htl,(kD ts).2 hts⟩,?_,?_⟩
    .simp only [jw,jdy];simp only [ZS,and_true] at hs;subst hs;simp only [jF,ZS] at hr;obtain ⟨v',r',⟨rfl,rfl⟩,h3,_⟩:=hr;simp only [jF];exact ⟨_,_,rfl,by simp [rel,hbs],_,_,rfl,h3,rfl⟩
    .simp only [ZS,and_true] at hs;subst hs;intro z hz;rcases kW.1 hz with rfl|hz
     .simp [Value.oneCell']
     .exact ho z hz
end
theorem jB4:Rdr Tryz.prog 152 jw JO:=λ_ _ _ _ _ _ fuel cs x h=>
 jwu Tryz.underlying152 Tryz.underlying9 Tryz.underlying150 rfl rfl (by kernel_rfl) (by kernel_rfl) (by kernel_rfl) fuel cs x h
theorem jo0:Rdr Tryz.prog 3 ci I64:=Rdr.int Tryz.underlying3
theorem ju4:Rdr Tryz.prog 4 (λb=>[vb b]) (λ_=>True):=Rdr.bool Tryz.underlying4
theorem jiA:Rdr Tryz.prog 41 (λxs:List Int=>[ints xs]) (λxs=>(∀x∈xs,I64 x)/\xs.length<=9223372036854775807):=
 Rdr.slice Tryz.underlying41 (by kernel_rfl) (by decide) (λ_=>rfl) jo0
structure Ord' where
 syms:List (List UInt8)
 ws:List Int
 var:Int
abbrev joS (o:Ord'):List A:=[strs o.syms,ints o.ws,vi o.var]
abbrev od (o:Ord'):A:= .agg [strs o.syms,ints o.ws,vi o.var]
def owf (o:Ord'):Prop:=((∀s∈o.syms,s.length<=9223372036854775807)/\o.syms.length<=9223372036854775807)/\((∀x∈o.ws,I64 x)/\o.ws.length<=9223372036854775807)/\I64 o.var
set_option maxHeartbeats 1000000
def ko (left n:Int):Int:=if 0<=left - n then left - n else -1
theorem yn {left n:Int} (h:left < n):ko left n = -1:=jq (by omega)
theorem Ko {left n:Int} (h:n<=left):ko left n=left - n:=jp (by omega)
theorem jbH {b:Int} (h:0<=b):ko b ((0:Nat):Int)=b:=by unfold ko;simp [h]
theorem YC (b m n:Int):ko (b - m) n=ko b (m+n):=by unfold ko;rw [Int.sub_sub]
theorem jaS (b n:Int): -1<=ko b n:=by unfold ko;split<;>omega
theorem jaR {b m n:Int} (h:m<=b):ko (ko b m) n=ko b (m+n):=by rw [Ko h,YC]
def part {α:Type} (f:α->List A) (z:List A) (xs:List α) (i:Nat):List (List A):=(xs.take i).map f++List.replicate (xs.length - i) z
section
variable {α:Type} {f:α->List A} {z:List A} {xs:List α}
theorem Zj:qV xs.length z=part f z xs 0:=by simp [part,qV]
theorem Y1:part f z xs xs.length=xs.map f:=by simp [part]
theorem Js {i:Nat} (h:i<=xs.length):(part f z xs i).length=xs.length:=by simp [part];omega
theorem Y2 {i:Nat} (h:i < xs.length):jd9 (part f z xs i) i=some z:=by
 unfold jd9 part;rw [JZ (by simp;omega)];simp;rw [List.getElem?_replicate,jp (by omega)]
theorem Y3 {i:Nat} (h:i < xs.length):J6 (part f z xs i) i (f xs[i])=part f z xs (i+1):=by
 unfold J6 part;have e:xs.length - i=(xs.length - (i+1))+1:=by omega
 rw [List.set_append_right _ _ (by simp;omega),e,Z8]
 simp only [jM,qe,jgl (ZQ h),jb2,jhh];rw [<-List.take_append_getElem h,zV];simp
end
theorem juv (a b:A):Jo [a] 0 [b] = [b]:=rfl
theorem jiq (a b c d:A):Jo [a,b] 0 [c,d] = [c,d]:=rfl
theorem Jg {b n:Nat} (hb:(b:Int) * (n:Int)<=281474976710656) (hn:n<=1048576):jhW b (vi n) (vi n)=some n:=by
 show (if _ then _ else _)=_;rw [jp (show jA8 b n n from ⟨by omega,Int.le_refl _,hb,by omega⟩),jgg]
theorem qP {k:Nat} {xs:List (List A)} {i:Nat} (h:i<=xs.length):zS k (.sl k xs) none (some (vi i))=some (.sl k (xs.take i)):=by
 simp only [zS,Zi,yz];rw [jp ⟨trivial,Int.le_refl _,by omega,by omega⟩];simp
theorem qt {k:Nat} {xs:List (List A)} {i:Nat} (h:i<=xs.length):zS k (.sl k xs) (some (vi i)) none=some (.sl k (xs.drop i)):=by
 simp only [zS,Zi,yz];rw [jp ⟨trivial,by omega,by omega,by omega⟩];simp
def jMY (k:Int):Nat->List Int
 | 0=>[]
 | n+1=>k::jMY (k+1) n
section
variable {α:Type} {f:α->List A} (M r:List α) (x:α)
end
section
variable (M R:List (List A)) (x y:List A)
end
def jAF:List (List UInt8)->Nat
 | []=>0
 | s::l=>s.length+jAF l
theorem jiG (l:List Int) (hl:l.length<=9223372036854775807) (left:Int) (h0:0<=left) (h1:left<=1048576):G 58 [ints l,vi left]=some (vi (ko left ((l.length:Nat):Int)),[]):=by
 have hk:=jgJ h0 (jgf h1 (by decide)) hl;rw [g58];simp only [jd,hk];by_cases hc:left - l.length < 0
 .simp only [jd,hc];rw [yn (by omega)]
 .simp only [jd,hc];rw [Ko (by omega)]
def osz (o:Ord'):Nat:=o.syms.length+jAF o.syms+o.ws.length
theorem jAM (ts:List T) (hl:ts.length<=9223372036854775807) (ih:∀t∈ts,∀left:Int,0<=left->left<=1048576->G 164 [tm t,vi left]=some (vi (ko left ((tsz t:Nat):Int)),[]))
  (left:Int) (h0:0<=left) (h1:left<=1048576):G 210 [jQ ts,vi left]=some (vi (ko left ((ts.length+Qf ts:Nat):Int)),[]):=by
 have loop:∀(a:Int),0<=a->a<=1048576->jiZ (jQ ts) (vi a) (vi 0)=some (vi (ko a (Qf ts)),[]):=by
  have key:=(upto (P:=λi=>∀a:Int,0<=a->a<=1048576->jiZ (jQ ts) (vi a) (vi i)=some (vi (ko a (Qf (ts.drop i))),[])) (n:=ts.length) ?_ ?_ 0 (jD _))
  .simp only [kg,jP] at key;exact key
  .intro b hb hb';rw [jyS,j6];simp only [jd,Qf];rw [jbH hb]
  .intro i hi ih' b hb hb';have e1:=ih ts[i] (jo _) b hb hb';rw [jyS,jh hi];simp only [jd,hi,QP,ja hi,jf,e1,jm hi hl,Qf];by_cases hc:b < (tsz ts[i]:Nat)
   .rw [yn hc,yn (by omega)];rfl
   .have hp:=Ko (jge.1 hc);have ih':=ih' (ko b (tsz ts[i]:Nat)) (by omega) (by omega);have hn:¬ko b ((tsz ts[i]:Nat):Int) < 0:=by omega
    simp only [jd,hn,ih'];rw [jaR (jge.1 hc),<-jdI]
 have hk:=jgJ h0 (jgf h1 (by decide)) hl;rw [jLv];simp only [jd,hk];by_cases hc:left - ts.length < 0
 .simp only [jd,hc];rw [yn (by omega)]
 .have hl:=loop (left - ts.length) (by omega) (by omega);simp only [jd,hc,hl];rw [YC,<-jdI]
theorem jCs (t:T):JO t-> ∀left:Int,0<=left->left<=1048576->G 164 [tm t,vi left]=some (vi (ko left ((tsz t:Nat):Int)),[]):=by
 refine T.ind (p:=λt=>JO t-> ∀left:Int,0<=left->left<=1048576->G 164 [tm t,vi left]=some (vi (ko left ((tsz t:Nat):Int)),[])) ?_ t;intro t ih hw left h0 h1;obtain ⟨w1,w2,w3⟩:=(kJ t).1 hw;have w3:=(kD _).1 w3;have hk:=jgJ h0 (jgf h1 (by decide)) w1;rw [jKV,kQ];simp only [jd,hk];by_cases hc:left - t.name.length < 0
 .simp only [jd,hc];rw [yn (by omega)]
 .have e2:=jAM t.args w2 (λu hu=>ih u hu (w3 u hu)) (left - t.name.length) (by omega) (by omega);simp only [jd,hc,e2];rw [YC,<-jdI,<-ja9];by_cases h2:ko left ((t.name.length+t.args.length+Qf t.args:Nat):Int) < 0
  .have:ko left ((t.name.length+t.args.length+Qf t.args:Nat):Int) = -1:=by have:=jaS left (t.name.length+t.args.length+Qf t.args:Nat);omega
   simp only [jd,h2,this]
  .simp only [jd,h2]
theorem jiJ (l:List Int) (hl:l.length<=1048576):G 60 [ints l]=some (ints l,[]):=by
 have key:=(upto (P:=λi=>juh (ints l) (vi i) (part ci [vi 0] l i)=some (ints l,[])) (n:=l.length) ?_ ?_ 0 (jD _))
 .rw [g60];have hm:=Jg (b:=8) (n:=l.length) (by omega) hl;simp only [jP,<-Zj] at key;simp only [jd,hm,key]
 .rw [jC4,Y1];simp only [jd]
 .intro i hi ih;have h1:=Js (f:=ci) (z:=[vi 0]) (ZQ hi);have h2:QI (part ci [vi 0] l i).length (vi i)=some i:=yp (by omega);have h4:=Y3 (f:=ci) (z:=[vi 0]) hi;have h5:=jm hi (ZR hl (by decide));rw [jC4];simp only [jd,hi,QP,ja hi,h2,Y2 hi,juv,h4,h5,ih]
theorem jAP (ts:List T) (hl:ts.length<=1048576) (ih:∀t∈ts,G 183 [tm t]=some (tm t,[])):G 227 [jQ ts]=some (jQ ts,[]):=by
 have key:=(upto (P:=λi=>jnH (jQ ts) (vi i) (part jw [sv [],.sl 2 []] ts i)=some (jQ ts,[])) (n:=ts.length) ?_ ?_ 0 (jD _))
 .rw [jLL];have hm:=Jg (b:=40) (n:=ts.length) (by omega) hl;simp only [jP,<-Zj] at key;simp only [jd,hm,key]
 .rw [jy1,Y1];simp only [jd]
 .intro i hi ih';have h1:=Js (f:=jw) (z:=[sv [],.sl 2 []]) (ZQ hi);have h2:QI (part jw [sv [],.sl 2 []] ts i).length (vi i)=some i:=yp (by omega);have h4:=Y3 (f:=jw) (z:=[sv [],.sl 2 []]) hi;rw [zn] at h4;have h5:=jm hi (ZR hl (by decide));have e1:=ih ts[i] (jo _);rw [jy1];simp only [jd,hi,QP,ja hi,jf,e1,h2,Y2 hi,jiq,h4,h5,ih']
theorem jCw (t:T):tsz t<=1048576->G 183 [tm t]=some (tm t,[]):=by
 refine T.ind (p:=λt=>tsz t<=1048576->G 183 [tm t]=some (tm t,[])) ?_ t;intro t ih h;rw [kQ] at h;have e1:=jAP t.args (by omega) λu hu=>ih u hu (by have:=yC hu;omega);rw [jLa];simp only [jd,e1]
theorem jit (l:List Int) (hl:l.length<=9223372036854775807):G 32 [ints l,ints l]=some (vb true,[]):=by
 have key:=(upto (P:=λi=>jt9 (ints l) (ints l) (vi i)=some (vb true,[])) (n:=l.length) ?_ ?_ 0 (jD _))
 .rw [g32];simp only [jP] at key;simp only [jd,key]
 .rw [jCT];simp only [jd]
 .intro i hi ih;have h5:=jm hi hl;rw [jCT];simp only [jd,hi,QP,ja hi,h5,ih]
theorem jxU (ts:List T) (hl:ts.length<=9223372036854775807) (ih:∀t∈ts,G 208 [tm t,tm t]=some (vb true,[])):G 256 [jQ ts,jQ ts]=some (vb true,[]):=by
 have key:=(upto (P:=λi=>jnQ (jQ ts) (jQ ts) (vi i)=some (vb true,[])) (n:=ts.length) ?_ ?_ 0 (jD _))
 .rw [jL2];simp only [jP] at key;simp only [jd,key]
 .rw [jzc];simp only [jd]
 .intro i hi ih';have h5:=jm hi hl;have e1:=ih ts[i] (jo _);rw [jzc];simp only [jd,hi,QP,ja hi,jf,e1,h5,ih']
theorem jBv (t:T):JO t->G 208 [tm t,tm t]=some (vb true,[]):=by
 refine T.ind (p:=λt=>JO t->G 208 [tm t,tm t]=some (vb true,[])) ?_ t;intro t ih h;obtain ⟨w1,w2,w3⟩:=(kJ t).1 h;have w3:=(kD _).1 w3;have e1:=jxU t.args w2 λu hu=>ih u hu (w3 u hu);rw [jLu];simp only [jd,e1]
theorem YZ {l:List UInt8} {i:Nat} (h:i < l.length):yB (sv l) (vi i)=some (vy (l[i].toNat:Int)):=by
 show (if _ then _ else _)=_;rw [jp ⟨by omega,by simpa using h⟩];simp [zO,h]
theorem Jf {c:UInt8} {l:List UInt8} :yB (sv (c::l)) (vi 0)=some (vy (c.toNat:Int)):=YZ (i:=0) (l:=c::l) (by simp)
def yS (lo hi x:Int):Bool:=decide (lo<=x) && decide (x<=hi)
theorem yw (x a b:Int):G 48 [vi x,vi a,vi b]=some (vb (yS a b x),[]):=by
 rw [g48];by_cases h:a<=x<;>simp only [jd,h,yS,jJ,jH]
theorem zN (x a b:Int):G 43 [vi x,vi a,vi b]=some (vb (yS a b x),[]):=by
 rw [g43];by_cases h:a<=x<;>simp only [jd,h,yS,jJ,jH]
def upc (c:UInt8):Bool:=yS 65 90 (c.toNat:Int)
def jeM (c:UInt8):Bool:=yS 97 122 (c.toNat:Int)
def jvF (c:UInt8):Bool:=yS 48 57 (c.toNat:Int)
def JX (c:UInt8):Bool:=jeM c || jvF c
theorem jeH (c:UInt8):G 241 [vy (c.toNat:Int)]=some (vb (upc c),[]):=by
 rw [jLT];by_cases h:65<=(c.toNat:Int)<;>simp only [jd,h,upc,yS,jJ,jH]
theorem jeG (c:UInt8):G 304 [vy (c.toNat:Int)]=some (vb (jeM c),[]):=by
 rw [jMD];by_cases h:97<=(c.toNat:Int)<;>simp only [jd,h,jeM,yS,jJ,jH]
theorem jjE (c:UInt8):G 305 [vy (c.toNat:Int)]=some (vb (jvF c),[]):=by
 rw [jME];by_cases h:48<=(c.toNat:Int)<;>simp only [jd,h,jvF,yS,jJ,jH]
theorem jjO (c:UInt8):G 213 [vy (c.toNat:Int)]=some (vb (JX c),[]):=by
 rw [jLy];by_cases h:97<=(c.toNat:Int)<;>by_cases h2:(c.toNat:Int)<=122<;>by_cases h3:48<=(c.toNat:Int)<;>simp only [jd,h,h2,h3,JX,jeM,jvF,yS,jJ,jH,Bool.or_true,jb5,Jh,zI]
def ju:List UInt8->Bool
 | []=>false
 | c::r=>upc c && (r.all JX && decide (r.length<=3))
theorem jiv (r:List UInt8) (k:Nat) (hk:k<=9):yS 1 (k+1:Nat) (((r.length+1:Nat)):Int)=decide (r.length<=k):=by
 unfold yS;have:decide ((1:Int)<=((r.length+1:Nat):Int))=true:=by simp;omega
 rw [this,jJ];by_cases h:r.length<=k<;>simp [h]<;>omega
theorem jih (s:List UInt8) (hs:s.length<=9223372036854775807):∀i,i<=s.length->1<=i->jje (sv s) (vi (s.length:Nat)) (vi i)=some (vb ((s.drop i).all JX && yS 1 4 (s.length:Nat)),[]):=by
 refine upto (P:=λi=>1<=i->jje (sv s) (vi (s.length:Nat)) (vi i)=some (vb ((s.drop i).all JX && yS 1 4 (s.length:Nat)),[])) ?_ ?_
 .intro _;rw [joE,j6];have e:=yw (s.length:Nat) 1 4;simp only [jd,e,jJ]
 .intro i hi ih h1;have ih:=ih (by omega);have hn:¬((i:Int)=0):=by omega
  have hp:(0:Int) < (i:Int):=by omega
  have hlt:(i:Int) < ((s.length:Nat):Int):=by omega
  have h5:=jm hi hs;have hx:=YZ hi;have e1:=jeG s[i];have e2:=jjE s[i];rw [joE,jh hi];generalize s[i]=ch at *;rw [zB];cases h8:jeM ch<;>cases h9:jvF ch<;>rw [h8] at e1<;>rw [h9] at e2<;>simp only [jd,hn,hp,hlt,hx,e1,e2,h5,ih,JX,h8,h9,jJ,jH,Bool.or_true,jb5,Jh,zI]
theorem jel (s:List UInt8) (hs:s.length<=9223372036854775807):G 302 [sv s]=some (vb (ju s),[]):=by
 rw [jMB];show (jmq (sv s)).bind _=_;rw [jdj,yz];cases s with
 | nil=>
  rw [joE];have e:=yw ((0:Nat):Int) 1 4;simp only [jd,e];rfl
 | cons c r=>
  have key:=jih (c::r) hs 1 (by simp) (kH _);simp only [jhs,kg] at key;have e':yS 1 4 (((c::r).length:Nat):Int)=decide (r.length<=3):=jiv r 3 (by decide);rw [e'] at key;rw [joE];have h5:jr .add false (vi 0) (vi 1)=some (vi ((1:Nat):Int)):=by rw [KO,jZ (by decide) (by decide)];rfl
  have h6:(0:Int) < (((c::r).length:Nat):Int):=Int.natCast_pos.2 (Nat.succ_pos _);have e1:=jeH c;generalize ((((c::r).length:Nat)):Int)=n at *;cases hu:upc c<;>rw [hu] at e1<;>simp only [jd,h6,Jf,e1,h5,key,ju,hu,jJ,jH]
theorem jtl (s:List UInt8) (hs:s.length<=9223372036854775807):∀i,i<=s.length->jgu (sv s) (vi i)=some (vb ((s.drop i).all JX),[]):=by
 refine upto (P:=λi=>jgu (sv s) (vi i)=some (vb ((s.drop i).all JX),[])) ?_ ?_
 .rw [jyA,j6];simp only [jd]
 .intro i hi ih;have hlt:(i:Int) < ((s.length:Nat):Int):=by omega
  have h5:=jm hi hs;have hx:=YZ hi;have e1:=jjO s[i];rw [jyA,jh hi];generalize s[i]=ch at *;rw [zB];cases h8:JX ch<;>rw [h8] at e1<;>simp only [jd,hlt,hx,e1,h5,ih,h8,jJ,jH]
theorem zy (s:List UInt8) (hs:s.length<=9223372036854775807):G 177 [sv s]=some (vb (ju s),[]):=by
 rw [jK5];show (jmq (sv s)).bind _=_;rw [jdj,yz];cases s with
 | nil=>
  have e:=zN ((0:Nat):Int) 1 4;simp only [jd,e];rfl
 | cons c r=>
  have e:=zN (((c::r).length:Nat):Int) 1 4;have e':yS 1 4 (((c::r).length:Nat):Int)=decide (r.length<=3):=jiv r 3 (by decide);rw [e'] at e;have key:=jtl (c::r) hs 1 (by simp);simp only [jhs,kg] at key;have key:jgu (sv (c::r)) (vi 1)=some (vb (r.all JX),[]):=key;generalize ((((c::r).length:Nat)):Int)=n at *;by_cases h3:r.length<=3
  .rw [jW h3] at e;by_cases ha:(c.toNat:Int) < 65
   .have:¬(65<=(c.toNat:Int)):=by omega
    simp only [jd,e,Jf,ha,ju,upc,yS,this,jH]
   .have h65:65<=(c.toNat:Int):=by omega
    by_cases hb:90 < (c.toNat:Int)
    .have:¬((c.toNat:Int)<=90):=by omega
     simp only [jd,e,Jf,ha,hb,ju,upc,yS,this,jH,yb]
    .have:(c.toNat:Int)<=90:=by omega
     simp only [jd,e,Jf,ha,hb,ju,upc,yS,this,h65,key,h3,jJ,ja8]
  .rw [kA h3] at e;simp only [jd,e,ju,h3,yb]
def qE (s:List UInt8):List (List UInt8)->Option Nat
 | []=>none
 | x::l=>if s=x then some 0 else (qE s l).map (· + 1)
def yx (i:Nat):Option Nat->Int
 | none=> -1
 | some k=>((i+k:Nat):Int)
theorem QC (s:List UInt8):∀l,(qE s l).isSome=l.contains s
 | []=>rfl
 | x::l=>by
  simp only [qE,List.contains_cons];by_cases h:s=x
  .simp [h]
  .have:=QC s l;simp [h,this]
theorem jiu {s:List UInt8} :∀ {l:List (List UInt8)} {k:Nat},qE s l=some k->k < l.length/\l[k]? = some s
 | [],_,h=>by cases h
 | x::l,k,h=>by
  simp only [qE] at h;split at h
  .rename_i e;cases h;exact ⟨by simp,by simp [e]⟩
  .obtain ⟨j,h1,rfl⟩:=Jl.1 h;have:=jiu h1;exact ⟨by simp;exact this.1,by simpa using this.2⟩
theorem jvJ (s:List UInt8) (l:List (List UInt8)):decide (yx 0 (qE s l) < 0)=!l.contains s:=by
 rw [<-QC];cases qE s l<;>simp [yx]
theorem jop (s:List UInt8) (l:List (List UInt8)):decide (0<=yx 0 (qE s l))=l.contains s:=by
 rw [<-QC];cases qE s l<;>simp [yx]
theorem jju {s x:List UInt8} {l:List (List UInt8)} {i:Nat} (h:¬s=x):yx (i+1) (qE s l)=yx i (qE s (x::l)):=by
 simp only [qE,h,KU];cases qE s l<;>simp [yx];omega
theorem jbE (l:List (List UInt8)) (s:List UInt8) (hl:l.length<=9223372036854775807):G 308 [strs l,sv s]=some (vi (yx 0 (qE s l)),[]):=by
 have key:=upto (P:=λi=>jn3 (strs l) (sv s) (vi (l.length:Nat)) (vi i)=some (vi (yx i (qE s (l.drop i))),[])) (n:=l.length) ?_ ?_ 0 (jD _)
 .simp only [jP,kg] at key;rw [jMG];simp only [jd,key]
 .rw [jzz,j6];simp only [jd,qE,yx]
 .intro i hi ih;have hlt:(i:Int) < ((l.length:Nat):Int):=by omega
  have h5:=jm hi hl;rw [jzz,jh hi];by_cases h:s=l[i]
  .simp only [jd,hlt,ja hi,h,qE,yx,kC]
  .simp only [jd,hlt,ja hi,h,h5,ih,jju h]
theorem Zv (l:List (List UInt8)) (s:List UInt8) (hl:l.length<=9223372036854775807):G 275 [strs l,sv s]=some (vb (l.contains s),[]):=by
 have e:=jbE l s hl;rw [jMj];simp only [jd,e,jop]
theorem jiz (o:Ord') (s:List UInt8) (hl:o.syms.length<=9223372036854775807):G 333 [od o,sv s]=some (vi (yx 0 (qE s o.syms)),[]):=by
 have key:=upto (P:=λi=>jn6 (sv s) (vi i) (strs o.syms) (ints o.ws) (vi o.var)=some (vi (yx i (qE s (o.syms.drop i))),[])) (n:=o.syms.length) ?_ ?_ 0 (jD _)
 .simp only [jP,kg] at key;rw [jMO];simp only [jd,key]
 .rw [jzE,j6];simp only [jd,qE,yx]
 .intro i hi ih;have hlt:(i:Int) < ((o.syms.length:Nat):Int):=by omega
  have h5:=jm hi hl;rw [jzE,jh hi];by_cases h:s=o.syms[i]
  .simp only [jd,hlt,ja hi,h,qE,yx,kC]
  .have h':¬o.syms[i]=s:=λe=>h e.symm;simp only [jd,hlt,ja hi,h',h5,ih,jju h]
theorem joD (l:List (List UInt8)) (s:List UInt8) (hl:l.length<=9223372036854775807):G 215 [strs l,sv s]=some (vb (l.contains s),[]):=by
 have key:=upto (P:=λi=>jnC (strs l) (sv s) (vi i)=some (vb ((l.drop i).contains s),[])) (n:=l.length) ?_ ?_ 0 (jD _)
 .simp only [jP,kg] at key;rw [jLA];exact key
 .rw [jyU,j6];simp only [jd,List.contains_nil]
 .intro i hi ih;have hlt:(i:Int) < ((l.length:Nat):Int):=by omega
  have h5:=jm hi hl;rw [jyU,jh hi,List.contains_cons];by_cases h:l[i]=s
  .have:(s == l[i])=true:=by simp [h]
   simp only [jd,hlt,ja hi,h,this,Jh];simp
  .have:(s == l[i])=false:=by simp;exact λe=>h e.symm
   simp only [jd,hlt,ja hi,h,this,h5,ih,zI]
def jrK:List (List UInt8):=[[116,114,117,101],[102,97,108,115,101],[116,114,117,116,104],[98,111,116,104],[101,105,116,104,101,114],[105,102],[97,108,108],[115,111,109,101]]
def jph (c:UInt8):Bool:=JX c || decide ((c.toNat:Int)=95)
def qN:List UInt8->Bool
 | []=>false
 | c::r=>jeM c && (r.all jph && (decide (r.length<=5) && !jrK.contains (c::r)))
theorem jBh (a b:List UInt8):(a == b)=decide (a=b):=by by_cases h:a=b<;>simp [h]
theorem jlw (s:List UInt8) (hs:s.length<=9223372036854775807):∀i,i<=s.length->1<=i->ji9 (sv s) (vi (s.length:Nat)) (vi i)=some (vb ((s.drop i).all jph && (yS 1 6 (s.length:Nat) && !jrK.contains s)),[]):=by
 refine upto (P:=λi=>1<=i->ji9 (sv s) (vi (s.length:Nat)) (vi i)=some (vb ((s.drop i).all jph && (yS 1 6 (s.length:Nat) && !jrK.contains s)),[])) ?_ ?_
 .intro _;rw [joz,j6];have e:=yw (s.length:Nat) 1 6;have e2:=Zv jrK s (by decide);have e3:G 306 []=some (strs jrK,[]):=jMF;cases h:yS 1 6 (s.length:Nat)<;>rw [h] at e<;>simp only [jd,e,e2,e3,h,jJ,jH,jam]
 .intro i hi ih h1;have ih:=ih (by omega);have hn:¬((i:Int)=0):=by omega
  have hlt:(i:Int) < ((s.length:Nat):Int):=by omega
  have h5:=jm hi hs;have hx:=YZ hi;have e1:=jeG s[i];have e2:=jjE s[i];rw [joz,jh hi];generalize s[i]=ch at *;rw [zB];cases h7:decide ((ch.toNat:Int)=95)<;>cases h8:jeM ch<;>cases h9:jvF ch<;>rw [h8] at e1<;>rw [h9] at e2<;>
   simp only [jd,hn,hlt,hx,e1,e2,h5,ih,jph,JX,h7,h8,h9,jJ,jH,Bool.or_true,jb5,Jh,zI]
theorem jc6 (s:List UInt8) (hs:s.length<=9223372036854775807):G 271 [sv s]=some (vb (qN s),[]):=by
 rw [jMf];show (jmq (sv s)).bind _=_;rw [jdj,yz];cases s with
 | nil=>
  rw [joz];have e:G 48 [vi ((0:Nat):Int),vi 1,vi 6]=some (vb false,[]):=yw ((0:Nat):Int) 1 6;simp only [jd,e];rfl
 | cons c r=>
  have key:=jlw (c::r) hs 1 (by simp) (kH _);simp only [jhs,kg] at key;have e':yS 1 6 (((c::r).length:Nat):Int)=decide (r.length<=5):=jiv r 5 (by decide);rw [e'] at key;rw [joz];have h5:jr .add false (vi 0) (vi 1)=some (vi ((1:Nat):Int)):=by rw [KO,jZ (by decide) (by decide)];rfl
  have h6:(0:Int) < (((c::r).length:Nat):Int):=Int.natCast_pos.2 (Nat.succ_pos _);have e1:=jeG c;generalize ((((c::r).length:Nat)):Int)=n at *;cases hu:jeM c<;>rw [hu] at e1<;>simp only [jd,h6,Jf,e1,h5,key,qN,hu,jJ,jH]
theorem jly (s:List UInt8) (hs:s.length<=9223372036854775807):∀i,i<=s.length->K7 (sv s) (vi i)=some (vb ((s.drop i).all jph),[]):=by
 refine upto (P:=λi=>K7 (sv s) (vi i)=some (vb ((s.drop i).all jph),[])) ?_ ?_
 .rw [jys,j6];simp only [jd]
 .intro i hi ih;have hlt:(i:Int) < ((s.length:Nat):Int):=by omega
  have h5:=jm hi hs;have hx:=YZ hi;have e1:=jjO s[i];rw [jys,jh hi];generalize s[i]=ch at *;rw [zB];cases h7:decide ((ch.toNat:Int)=95)<;>cases h8:JX ch<;>rw [h8] at e1<;>simp only [jd,hlt,hx,e1,h5,ih,jph,h7,h8,jJ,jH,Bool.or_true,jb5,Jh,zI]
theorem QG (s:List UInt8) (hs:s.length<=9223372036854775807):G 167 [sv s]=some (vb (qN s),[]):=by
 rw [jKY];show (jmq (sv s)).bind _=_;rw [jdj,yz];cases s with
 | nil=>
  have e:G 43 [vi ((0:Nat):Int),vi 1,vi 6]=some (vb false,[]):=zN ((0:Nat):Int) 1 6;simp only [jd,e];rfl
 | cons c r=>
  have e:=zN (((c::r).length:Nat):Int) 1 6;have e':yS 1 6 (((c::r).length:Nat):Int)=decide (r.length<=5):=jiv r 5 (by decide);rw [e'] at e;have key:=jly (c::r) hs 1 (by simp);simp only [jhs,kg] at key;have key:K7 (sv (c::r)) (vi 1)=some (vb (r.all jph),[]):=key;generalize ((((c::r).length:Nat)):Int)=n at *;have hres:jrK.contains (c::r)=(decide (c::r = [116,114,117,101]) || (decide (c::r = [102,97,108,115,101]) || (decide (c::r = [116,114,117,116,104]) || (decide (c::r = [98,111,116,104]) || (decide (c::r = [101,105,116,104,101,114]) || (decide (c::r = [105,102]) || (decide (c::r = [97,108,108]) || decide (c::r = [115,111,109,101])))))))):=by
   simp only [jrK,List.contains_cons,List.contains_nil,jb5,jBh]
  by_cases h3:r.length<=5
  .rw [jW h3] at e;by_cases ha:(c.toNat:Int) < 97
   .have:¬(97<=(c.toNat:Int)):=by omega
    simp only [jd,e,Jf,ha,qN,jeM,yS,this,jH]
   .have h65:97<=(c.toNat:Int):=by omega
    by_cases hb:122 < (c.toNat:Int)
    .have:¬((c.toNat:Int)<=122):=by omega
     simp only [jd,e,Jf,ha,hb,qN,jeM,yS,this,jH,yb]
    .have h122:(c.toNat:Int)<=122:=by omega
     have e0:qN (c::r)=(r.all jph && !jrK.contains (c::r)):=by
      simp [qN,jeM,yS,h65,h122,h3]
     rw [e0,hres];have hx0:=Jf (c:=c) (l:=r);clear hres e0;generalize c::r=s at *;cases q0:decide (s = [116,114,117,101]);rotate_left
     .simp only [jd,e,hx0,ha,hb,q0,Jh,zI,yb]
     cases q1:decide (s = [102,97,108,115,101]);rotate_left
     .simp only [jd,e,hx0,ha,hb,q0,q1,Jh,zI,yb]
     cases q2:decide (s = [116,114,117,116,104]);rotate_left
     .simp only [jd,e,hx0,ha,hb,q0,q1,q2,Jh,zI,yb]
     cases q3:decide (s = [98,111,116,104]);rotate_left
     .simp only [jd,e,hx0,ha,hb,q0,q1,q2,q3,Jh,zI,yb]
     cases q4:decide (s = [101,105,116,104,101,114]);rotate_left
     .simp only [jd,e,hx0,ha,hb,q0,q1,q2,q3,q4,Jh,zI,yb]
     cases q5:decide (s = [105,102]);rotate_left
     .simp only [jd,e,hx0,ha,hb,q0,q1,q2,q3,q4,q5,Jh,zI,yb]
     cases q6:decide (s = [97,108,108]);rotate_left
     .simp only [jd,e,hx0,ha,hb,q0,q1,q2,q3,q4,q5,q6,Jh,zI,yb]
     cases q7:decide (s = [115,111,109,101]);rotate_left
     .simp only [jd,e,hx0,ha,hb,q0,q1,q2,q3,q4,q5,q6,q7,Jh,zI,yb]
     simp only [jd,e,hx0,ha,hb,q0,q1,q2,q3,q4,q5,q6,q7,Jh,zI,ja8,jb5,key]
  .rw [kA h3] at e;simp only [jd,e,qN,h3,jH,yb]
mutual
def nodes:T->Nat
 | .mk _ us=>1+js us
def js:List T->Nat
 | []=>0
 | t::ts=>nodes t+js ts
end
theorem jS (t:T):nodes t=1+js t.args:=by cases t;rfl
mutual
def Qp:T->Nat
 | .mk _ us=>1+jab us
def jab:List T->Nat
 | []=>0
 | t::ts=>max (Qp t) (jab ts)
end
theorem ZZ (t:T):Qp t=1+jab t.args:=by cases t;rfl
mutual
def yH:T->Bool
 | .mk n us=>if ju n then us.isEmpty else qN n && (decide (us.length<=4) && jka us)
def jka:List T->Bool
 | []=>true
 | t::ts=>yH t && jka ts
end
theorem yW (t:T):yH t=if ju t.name then t.args.isEmpty else qN t.name && (decide (t.args.length<=4) && jka t.args):=by cases t;rfl
theorem J2:∀ts,jka ts=ts.all yH
 | []=>rfl
 | t::ts=>by rw [jka,J2 ts,zB]
theorem qG:∀t:T,nodes t<=1+tsz t:=by
 refine T.ind λt ih=> ?_;have:∀ts:List T,(∀u∈ts,nodes u<=1+tsz u)->js ts<=ts.length+Qf ts:=by
  intro ts;induction ts with
  | nil=>intro _;simp [js]
  | cons u us ih=>
   intro h;have h1:=h u (by simp);have h2:=ih λv hv=>h v (by simp [hv]);simp only [js,Qf,yd];omega
 have h:=this t.args ih;rw [jS,kQ];omega
theorem qH (t:T):1<=nodes t:=by rw [jS];omega
theorem qw {ts:List T} {t:T} (h:t∈ts):nodes t<=js ts:=by
 induction ts with
 | nil=>cases h
 | cons u us ih=>
  simp only [js];rcases kW.1 h with rfl|h
  .omega
  .have:=ih h;omega
theorem jxI:∀t:T,Qp t<=nodes t:=by
 refine T.ind λt ih=> ?_;have:∀ts:List T,(∀u∈ts,Qp u<=nodes u)->jab ts<=js ts:=by
  intro ts;induction ts with
  | nil=>intro _;simp [jab]
  | cons u us ih=>
   intro h;have h1:=h u (by simp);have h2:=ih λv hv=>h v (by simp [hv]);simp only [js,jab];omega
 have h:=this t.args ih;rw [jS,ZZ];omega
theorem jwE (ts:List T) (hl:ts.length<=9223372036854775807) (hn:js ts<=1048577) (ih:∀t∈ts,∃r:Nat,G 125 [tm t]=some (vi r,[])/\r<=nodes t/\(nodes t<=30->r=nodes t)/\(30 < nodes t->30 < r)) :
  ∀i,i<=ts.length-> ∀a:Nat,a+js (ts.drop i)<=1048578-> ∃r:Nat,jnh (vi a) (jQ ts) (vi (ts.length:Nat)) (vi i)=some (vi r,[])/\r<=a+js (ts.drop i)/\(a+js (ts.drop i)<=30->r=a+js (ts.drop i))/\(30 < a+js (ts.drop i)->30 < r):=by
 refine upto ?_ ?_
 .intro a ha;rw [jtb,j6];simp only [jd,js,kC];exact ⟨a,rfl,kH _,λ_=>rfl,λh=>h⟩
 .intro i hi ih' a ha;have hlt:(i:Int) < ((ts.length:Nat):Int):=by omega
  have h5:=jm hi hl;rw [jh hi] at ha ⊢;simp only [js] at ha ⊢;obtain ⟨r1,e1,b1,b2,b3⟩:=ih ts[i] (jo _);by_cases hc:(30:Int) < (a:Int)
  .refine ⟨a,?_,by omega,by omega,by omega⟩;rw [jtb];simp only [jd,hlt,ja hi,jf,hc]
  .have hk:ck ((a:Int)+(r1:Int))=some (vi ((a+r1:Nat):Int)):=by rw [jZ (by omega) (by omega)];rfl
   obtain ⟨r2,e2,c1,c2,c3⟩:=ih' (a+r1) (by omega);refine ⟨r2,?_,by omega,by omega,by omega⟩;rw [jtb];simp only [jd,hlt,ja hi,jf,hc,e1,hk,h5,e2]
theorem size_eq:∀t:T,JO t->tsz t<=1048576-> ∃r:Nat,G 125 [tm t]=some (vi r,[])/\r<=nodes t/\(nodes t<=30->r=nodes t)/\(30 < nodes t->30 < r):=by
 refine T.ind λt ih hw hs=> ?_;obtain ⟨w1,w2,w3⟩:=(kJ t).1 hw;have w3:=(kD _).1 w3;have hn:=qG t;rw [jS] at hn;rw [kQ] at hs;obtain ⟨r,h1,h2,h3,h4⟩:=jwE t.args w2 (by rw [kQ] at hn;omega) (λu hu=>ih u hu (w3 u hu) (by have:=yC hu;omega)) 0 (jD _) 1 (by rw [kQ] at hn;simp;omega);simp only [kg,jP,jle] at h1 h2 h3 h4;refine ⟨r,?_,by rw [jS];exact h2,by rw [jS];exact h3,by rw [jS];exact h4⟩;rw [jKB];simp only [jd,h1]
theorem jv0 (n:List UInt8) (most:Int) (hm1: -1048600<=most) (hm:most<=1048576) (ts:List T) (hl:ts.length<=9223372036854775807) (ih:∀t∈ts,∀m:Int,-1048600<=m->m<=1048576-> ∃r:Nat,G 211 [tm t,vi m]=some (vi r,[])/\1<=r/\r<=nodes t/\((nodes t:Int)<=m->r=nodes t)/\(m < nodes t->m < r)) :
  ∀i,i<=ts.length-> ∀a:Nat,1<=a->a+js (ts.drop i)<=1048578-> ∃r:Nat,jnA (vi most) (vi a) (vi i) (sv n) (jQ ts)=some (vi r,[])/\1<=r/\r<=a+js (ts.drop i)/\(((a+js (ts.drop i):Nat):Int)<=most->r=a+js (ts.drop i))/\(most < ((a+js (ts.drop i):Nat):Int)->most < r):=by
 refine upto ?_ ?_
 .intro a h1 ha;rw [jte,j6];simp only [jd,js,kC];exact ⟨a,rfl,h1,kH _,λ_=>rfl,λh=>h⟩
 .intro i hi ih' a h1 ha;have hlt:(i:Int) < ((ts.length:Nat):Int):=by omega
  have h5:=jm hi hl;rw [jh hi] at ha ⊢;simp only [js] at ha ⊢;by_cases hc:(a:Int)<=most
  .obtain ⟨r1,e1,b0,b1,b2,b3⟩:=ih ts[i] (jo _) (most - a) (by omega) (by omega);have hk0:ck (most - (a:Int))=some (vi (most - a)):=jZ (by omega) (by omega);have hk:ck ((a:Int)+(r1:Int))=some (vi ((a+r1:Nat):Int)):=by rw [jZ (by omega) (by omega)];rfl
   obtain ⟨r2,e2,c0,c1,c2,c3⟩:=ih' (a+r1) (by omega) (by omega);refine ⟨r2,?_,by omega,by omega,by omega,by omega⟩;rw [jte];simp only [jd,hlt,ja hi,jf,hc,hk0,e1,hk,h5,e2]
  .refine ⟨a,?_,h1,by omega,by omega,by omega⟩;rw [jte];simp only [jd,hlt,hc]
theorem jBK:∀t:T,JO t->tsz t<=1048576-> ∀m:Int,-1048600<=m->m<=1048576-> ∃r:Nat,G 211 [tm t,vi m]=some (vi r,[])/\1<=r/\r<=nodes t/\((nodes t:Int)<=m->r=nodes t)/\(m < nodes t->m < r):=by
 refine T.ind λt ih hw hs m hm1 hm=> ?_;obtain ⟨w1,w2,w3⟩:=(kJ t).1 hw;have w3:=(kD _).1 w3;have hn:=qG t;rw [jS] at hn;obtain ⟨r,h1,h0,h2,h3,h4⟩:=jv0 t.name m hm1 hm t.args w2 (λu hu m h1 h2=>ih u hu (w3 u hu) (by have:=yC hu;rw [kQ] at hs;omega) m h1 h2) 0 (jD _) 1 (kH _) (by simp;omega);simp only [kg,jP,jle] at h1 h2 h3 h4;refine ⟨r,?_,h0,by rw [jS];exact h2,by rw [jS];exact h3,by rw [jS];exact h4⟩;rw [jLw];simp only [jd,h1]
theorem jsY (ts:List T) (hl:ts.length<=9223372036854775807) (hn:js ts<=1048577) (ih:∀t∈ts,G 251 [tm t]=some (vi (Qp t:Nat),[])) :
  ∀i,i<=ts.length-> ∀a:Nat,a<=1048577->jnM (vi a) (jQ ts) (vi (ts.length:Nat)) (vi i)=some (vi ((max a (jab (ts.drop i))+1:Nat):Int),[]):=by
 refine upto ?_ ?_
 .intro a ha;have hk:ck ((a:Int)+1)=some (vi ((a+1:Nat):Int)):=by rw [jZ (by omega) (by omega)];rfl
  rw [jy8,j6];simp only [jd,jab,hk,Nat.max_zero]
 .intro i hi ih' a ha;have hlt:(i:Int) < ((ts.length:Nat):Int):=by omega
  have h5:=jm hi hl;have e1:=ih ts[i] (jo _);have hd:Qp ts[i]<=1048577:=ZR (jxI _) (ZR (qw (jo hi)) hn);have hmx:(if (a:Int) < ((Qp ts[i]:Nat):Int) then ((Qp ts[i]:Nat):Int) else (a:Int))=((max a (Qp ts[i]):Nat):Int):=by split<;>omega
  have ih':=ih' (max a (Qp ts[i])) (by omega);rw [jy8,jh hi];simp only [jd,hlt,ja hi,jf,e1,hmx,h5,ih',jab,Nat.max_assoc]
theorem jjr:∀t:T,JO t->tsz t<=1048576->G 251 [tm t]=some (vi (Qp t:Nat),[]):=by
 refine T.ind λt ih hw hs=> ?_;obtain ⟨w1,w2,w3⟩:=(kJ t).1 hw;have w3:=(kD _).1 w3;have hn:=qG t;rw [jS] at hn;have h1:=jsY t.args w2 (by omega) (λu hu=>ih u hu (w3 u hu) (by have:=yC hu;rw [kQ] at hs;omega)) 0 (jD _) 0 (by omega);simp only [kg,jP,Nat.zero_max] at h1;rw [jLX,ZZ,Nat.add_comm];simp only [jd,h1]
theorem juT (a b:Nat):G 56 [vi a,vi b]=some (vi ((max a b:Nat):Int),[]):=by
 rw [g56];by_cases h:(b:Int) < (a:Int)
 .simp only [jd,h];rw [Nat.max_eq_left (by omega)]
 .simp only [jd,h];rw [Nat.max_eq_right (by omega)]
theorem joC (n:List UInt8) (ts:List T) (hl:ts.length<=9223372036854775807) (hn:js ts<=1048577) (ih:∀t∈ts,G 212 [tm t]=some (vi (Qp t:Nat),[])) :
  ∀i,i<=ts.length-> ∀a:Nat,a<=1048577->jnB (vi a) (vi i) (sv n) (jQ ts)=some (vi ((max a (jab (ts.drop i))+1:Nat):Int),[]):=by
 refine upto ?_ ?_
 .intro a ha;have hk:ck ((a:Int)+1)=some (vi ((a+1:Nat):Int)):=by rw [jZ (by omega) (by omega)];rfl
  rw [jyT,j6];simp only [jd,jab,hk,Nat.max_zero]
 .intro i hi ih' a ha;have hlt:(i:Int) < ((ts.length:Nat):Int):=by omega
  have h5:=jm hi hl;have e1:=ih ts[i] (jo _);have e2:=juT a (Qp ts[i]);have hd:Qp ts[i]<=1048577:=ZR (jxI _) (ZR (qw (jo hi)) hn);have ih':=ih' (max a (Qp ts[i])) (by omega);rw [jyT,jh hi];simp only [jd,hlt,ja hi,jf,e1,e2,h5,ih',jab,Nat.max_assoc]
theorem jtk:∀t:T,JO t->tsz t<=1048576->G 212 [tm t]=some (vi (Qp t:Nat),[]):=by
 refine T.ind λt ih hw hs=> ?_;obtain ⟨w1,w2,w3⟩:=(kJ t).1 hw;have w3:=(kD _).1 w3;have hn:=qG t;rw [jS] at hn;have h1:=joC t.name t.args w2 (by omega) (λu hu=>ih u hu (w3 u hu) (by have:=yC hu;rw [kQ] at hs;omega)) 0 (jD _) 0 (by omega);simp only [kg,jP,Nat.zero_max] at h1;rw [jLx,ZZ,Nat.add_comm];simp only [jd,h1]
def jG (t:T):Bool:=decide (nodes t<=30) && decide (Qp t<=8)
def kZ (t:T):Bool:=jG t && yH t
theorem jbF (t:T) (hw:JO t) (hs:tsz t<=1048576):G 204 [tm t]=some (vb (jG t),[]):=by
 obtain ⟨r,h1,h2,h3,h4⟩:=size_eq t hw hs;have hd:=jjr t hw hs;rw [jLq];by_cases h:nodes t<=30
 .have:(r:Int)<=30:=by have:=h3 h;omega
  have e:decide (((Qp t:Nat):Int)<=8)=decide (Qp t<=8):=by congr 1;exact propext (by omega)
  simp only [jd,h1,hd,this,jG,h,e,jJ]
 .have:¬(r:Int)<=30:=by have:=h4 (by omega);omega
  simp only [jd,h1,this,jG,h,jH]
theorem jma (t:T) (hw:JO t) (hs:tsz t<=1048576):G 165 [tm t]=some (vb (jG t),[]):=by
 obtain ⟨r,h1,h0,h2,h3,h4⟩:=jBK t hw hs 30 (by decide) (by decide);have hd:=jtk t hw hs;rw [jKW];by_cases h:nodes t<=30
 .have:(r:Int)<=30:=by have:=h3 (by omega);omega
  have e:decide (((Qp t:Nat):Int)<=8)=decide (Qp t<=8):=by congr 1;exact propext (by omega)
  simp only [jd,h1,hd,this,jG,h,e,jJ]
 .have:¬(r:Int)<=30:=by have:=h4 (by omega);omega
  simp only [jd,h1,this,jG,h,jH]
theorem jig {f:FuncId} {caps:List A} (hsig:K.pureF f=true) (p:T->Bool) (ts:List T) (hl:ts.length<=9223372036854775807) (h:∀t∈ts,G f (tm t::caps)=some (vb (p t),[])) :
  ∃r:Int,G 247 [jQ ts,.fn f caps]=some (vi r,[])/\decide (0<=r)=ts.any p:=by
 have key:=upto (P:=λi=>∃r:Int,jnK (jQ ts) (.fn f caps) (vi (ts.length:Nat)) (vi i)=some (vi r,[])/\decide (0<=r)=(ts.drop i).any p) (n:=ts.length) ?_ ?_ 0 (jD _)
 .obtain ⟨r,h1,h2⟩:=key;simp only [jP,kg] at h1 h2;refine ⟨r,?_,h2⟩;rw [jLV];simp only [jd,h1]
 .refine ⟨-1,?_,by simp⟩;rw [jy7];simp only [jd]
 .intro i hi ih;obtain ⟨r,h1,h2⟩:=ih;have hlt:(i:Int) < ((ts.length:Nat):Int):=by omega
  have h5:=jm hi hl;have e1:=h ts[i] (jo _);rw [jy7,jh hi,List.any_cons];cases hp:p ts[i]<;>rw [hp] at e1
  .refine ⟨r,?_,by rw [h2,zI]⟩;simp only [jd,hlt,ja hi,jf,qD hsig,Qn,qQ,e1,h5,h1]
  .refine ⟨i,?_,by simp⟩;simp only [jd,hlt,ja hi,jf,qD hsig,Qn,qQ,e1]
theorem jcW {f:FuncId} {caps:List A} (hsig:K.pureF f=true) (p:T->Bool) (ts:List T) (hl:ts.length<=9223372036854775807) (h:∀t∈ts,G f (tm t::caps)=some (vb (p t),[])) :
  G 199 [jQ ts,.fn f caps]=some (vb (ts.any p),[]):=by
 obtain ⟨r,h1,h2⟩:=jig hsig p ts hl h;rw [jLm];simp only [jd,h1,h2]
theorem jhz (p:T->Bool) (ts:List T):(ts.any λt=> !p t)=!ts.all p:=by
 induction ts with
 | nil=>rfl
 | cons t ts ih=>rw [List.any_cons,zB,ih];cases p t<;>rfl
theorem jc3:∀t:T,JO t->G 270 [tm t]=some (vb (yH t),[]):=by
 refine T.ind λt ih hw=> ?_;obtain ⟨w1,w2,w3⟩:=(kJ t).1 hw;have w3:=(kD _).1 w3;have e1:=jel t.name w1;have e2:=jc6 t.name w1;have e3:=jcW (f:=303) (caps:=[]) rfl (λu=> !yH u) t.args w2 (λu hu=>by
  have:=ih u hu (w3 u hu);rw [jMC];simp only [jd,this])
 rw [jhz,<-J2] at e3;rw [jMe,yW];have e4:decide (((t.args.length:Nat):Int)=0)=t.args.isEmpty:=by cases t.args<;>simp;omega
 have e5:decide (((t.args.length:Nat):Int)<=4)=decide (t.args.length<=4):=by congr 1;exact propext (by omega)
 cases hv:ju t.name<;>rw [hv] at e1
 .cases hy:qN t.name<;>rw [hy] at e2
  .simp only [jd,e1,e2,jH]
  .cases ha:decide (t.args.length<=4)<;>rw [ha] at e5
   .simp only [jd,e1,e2,e5,jH,jJ]
   .simp only [jd,e1,e2,e5,e3,jJ,Bool.not_not]
 .simp only [jd,e1,e4]
theorem jeK:∀t:T,JO t->G 166 [tm t]=some (vb (yH t),[]):=by
 refine T.ind λt ih hw=> ?_;obtain ⟨w1,w2,w3⟩:=(kJ t).1 hw;have w3:=(kD _).1 w3;have e1:=zy t.name w1;have e2:=QG t.name w1;have key:=upto (P:=λi=>jnk (vi i) (sv t.name) (jQ t.args)=some (vb (jka (t.args.drop i)),[])) (n:=t.args.length) ?_ ?_ 0 (jD _)
 .simp only [jP,kg] at key;rw [jKX,yW];have e4:decide (((t.args.length:Nat):Int)=0)=t.args.isEmpty:=by cases t.args<;>simp;omega
  cases hv:ju t.name<;>rw [hv] at e1
  .cases hy:qN t.name<;>rw [hy] at e2
   .simp only [jd,e1,e2,jH]
   .by_cases ha:4 < ((t.args.length:Nat):Int)
    .have:¬t.args.length<=4:=by omega
     simp only [jd,e1,e2,ha,this,jH,yb]
    .have:t.args.length<=4:=by omega
     simp only [jd,e1,e2,ha,this,key,jJ]
  .simp only [jd,e1,e4]
 .rw [jyr,j6];simp only [jd,jka]
 .intro i hi ih';have hlt:(i:Int) < ((t.args.length:Nat):Int):=by omega
  have h5:=jm hi w2;have e3:=ih t.args[i] (jo _) (w3 _ (jo _));rw [jyr,jh hi,jka];cases hp:yH t.args[i]<;>rw [hp] at e3
  .simp only [jd,hlt,ja hi,jf,e3,jH]
  .simp only [jd,hlt,ja hi,jf,e3,h5,ih',jJ]
theorem jc7 (t:T) (hw:JO t) (hs:tsz t<=1048576):G 272 [tm t]=some (vb (kZ t),[]):=by
 have e1:=jbF t hw hs;have e2:=jc3 t hw;rw [jMg,kZ];cases h:jG t<;>rw [h] at e1<;>simp only [jd,e1,e2,jJ,jH]
theorem Zd (t:T) (hw:JO t) (hs:tsz t<=1048576):G 168 [tm t]=some (vb (kZ t),[]):=by
 have e1:=jma t hw hs;have e2:=jeK t hw;rw [jKZ,kZ];cases h:jG t<;>rw [h] at e1<;>simp only [jd,e1,e2,jJ,jH]
theorem J3 {xs:List Int} {i:Nat} (h:i < xs.length):jg 1 (ints xs) (vi i)=some (.elt (ci xs[i]) 0):=ja h
def jvB (o:Ord') (i:Nat):Bool:=qN (o.syms.getD i []) && (!(o.syms.take i).contains (o.syms.getD i []) && yS o.var 100 (o.ws.getD i 0))
def y9 (o:Ord'):Bool:=yS 1 12 (o.syms.length:Nat) && (decide (o.ws.length=o.syms.length) && (yS 1 100 o.var && (List.range o.syms.length).all (jvB o)))
theorem jtC {n i:Nat} (h:i < n):(List.range n).drop i=i::(List.range n).drop (i+1):=by
 have h':i < (List.range n).length:=by simpa using h
 rw [jt5 h',List.getElem_range]
theorem jqW (o:Ord') (hw:owf o) (hl:o.ws.length=o.syms.length):∀i,i<=o.syms.length->jnU (vi i) (strs o.syms) (ints o.ws) (vi o.var)=some (vb (((List.range o.syms.length).drop i).all (jvB o)),[]):=by
 refine upto ?_ ?_
 .rw [jzj,jhk (by simp)];simp only [jd]
 .intro i hi ih;have hlt:(i:Int) < ((o.syms.length:Nat):Int):=by omega
  have hi2:i < o.ws.length:=by omega
  have h5:=jm hi hw.1.2;have hs:=hw.1.1 o.syms[i] (jo _);have e1:=QG o.syms[i] hs;have hsl:zS 1 (strs o.syms) none (some (vi i))=some (strs (o.syms.take i)):=by rw [qP (by simp;omega),<-jev]
  have e2:=joD (o.syms.take i) o.syms[i] (by rw [qe];exact ZR (Nat.min_le_right _ _) hw.1.2)
  have e3:=zN o.ws[i] o.var 100;have hc:jvB o i=(qN o.syms[i] && (!(o.syms.take i).contains o.syms[i] && yS o.var 100 o.ws[i])):=by simp [jvB,zO,hi,hi2]
  rw [jzj,jtC hi,zB,hc];cases h1:qN o.syms[i]<;>rw [h1] at e1
  .simp only [jd,hlt,ja hi,e1,jH]
  .cases h2:(o.syms.take i).contains o.syms[i]<;>rw [h2] at e2
   .cases h3:yS o.var 100 o.ws[i]<;>rw [h3] at e3
    .simp only [jd,hlt,ja hi,J3 hi2,e1,hsl,e2,e3,jH,jJ]
    .simp only [jd,hlt,ja hi,J3 hi2,e1,hsl,e2,e3,h5,ih,jJ]
   .simp only [jd,hlt,ja hi,e1,hsl,e2,jH,jJ]
theorem jvW (o:Ord') (hw:owf o):G 265 [od o]=some (vb (y9 o),[]):=by
 have e1:=zN (o.syms.length:Nat) 1 12;have e2:=zN o.var 1 100;rw [jL9,y9];cases h1:yS 1 12 (o.syms.length:Nat)<;>rw [h1] at e1
 .simp only [jd,e1,jH]
 .by_cases h2:o.ws.length=o.syms.length
  .have h2':((o.ws.length:Nat):Int)=((o.syms.length:Nat):Int):=by rw [h2]
   have key:=jqW o hw h2 0 (jD _);simp only [jP,kg] at key;cases h3:yS 1 100 o.var<;>rw [h3] at e2
   .simp only [jd,e1,h2',e2,jH,yb]
   .simp only [jd,e1,h2',h2,e2,key,jJ]
  .have h2':¬((o.ws.length:Nat):Int)=((o.syms.length:Nat):Int):=by omega
   simp only [jd,e1,h2',h2,jH,jJ]
mutual
def KX (l:List (List UInt8)):T->Bool
 | .mk n us=>(ju n || l.contains n) && YR l us
def YR (l:List (List UInt8)):List T->Bool
 | []=>true
 | t::ts=>KX l t && YR l ts
end
theorem J7 (l:List (List UInt8)) (t:T):KX l t=((ju t.name || l.contains t.name) && YR l t.args):=by cases t;rfl
theorem jaL (l:List (List UInt8)):∀ts,YR l ts=ts.all (KX l)
 | []=>rfl
 | t::ts=>by rw [YR,jaL l ts,zB]
theorem zM {t:T} (h:yH t=true):∀u∈t.args,yH u=true:=by
 rw [yW] at h;intro u hu;split at h
 .rw [jlh.1 h] at hu;cases hu
 .simp only [jy] at h;rw [J2] at h;exact z7.1 h.2.2 u hu
theorem jrb {t:T} (h:yH t=true):∃c r,t.name=c::r/\ju t.name=upc c/\(upc c=false->qN t.name=true):=by
 rw [yW] at h;cases hn:t.name with
 | nil=>rw [hn] at h;simp [ju,qN] at h
 | cons c r=>
  refine ⟨c,r,rfl,?_,?_⟩
  .rw [hn] at h;cases hu:upc c with
   | false=>simp [ju,hu]
   | true=>
    cases hv:ju (c::r) with
    | true=>rfl
    | false=>
     rw [hv] at h;have:jeM c=false:=by
      simp only [upc,yS,jeM,jy,kK] at hu ⊢;have:¬(97<=(c.toNat:Int)):=by omega
      simp [this]
     simp [qN,this] at h
  .intro hu;rw [hn] at h;have:ju (c::r)=false:=by simp [ju,hu]
   rw [this] at h;simp at h;exact h.1
theorem YT (t:T) (h:yH t=true):G 195 [tm t]=some (vb (ju t.name),[]):=by
 obtain ⟨c,r,hn,hv,_⟩:=jrb h;have e1:=jeH c;rw [<-hv] at e1;rw [jFJ];have hx:yB (sv t.name) (vi 0)=some (vy (c.toNat:Int)):=by rw [hn];exact Jf
 simp only [jd,hx,e1]
theorem jqV (o:Ord') (ho:o.syms.length<=9223372036854775807):∀t:T,JO t->G 294 [od o,tm t]=some (vb (KX o.syms t),[]):=by
 refine T.ind λt ih hw=> ?_;obtain ⟨w1,w2,w3⟩:=(kJ t).1 hw;have w3:=(kD _).1 w3;have e1:=zy t.name w1;have e2:=jiz o t.name ho;have e2':=jvJ t.name o.syms;have key:=upto (P:=λi=>jnZ (vi i) (strs o.syms) (ints o.ws) (vi o.var) (sv t.name) (jQ t.args)=some (vb (YR o.syms (t.args.drop i)),[])) (n:=t.args.length) ?_ ?_ 0 (jD _)
 .simp only [jP,kg] at key;rw [jMu,J7];cases hv:ju t.name<;>rw [hv] at e1
  .cases hc:o.syms.contains t.name<;>rw [hc] at e2'
   .simp only [jd,e1,e2,e2',zI,jH]
   .simp only [jd,e1,e2,e2',key,zI,jJ]
  .simp only [jd,e1,key,Jh,jJ]
 .rw [jzq,j6];simp only [jd,YR]
 .intro i hi ih';have hlt:(i:Int) < ((t.args.length:Nat):Int):=by omega
  have h5:=jm hi w2;have e3:=ih t.args[i] (jo _) (w3 _ (jo _));rw [jzq,jh hi,YR];cases hp:KX o.syms t.args[i]<;>rw [hp] at e3
  .simp only [jd,hlt,ja hi,jf,e3,jH]
  .simp only [jd,hlt,ja hi,jf,e3,h5,ih',jJ]
def jeE (o:Ord') (t:T):Bool:=kZ t && KX o.syms t
theorem jmd (o:Ord') (t:T) (ho:o.syms.length<=9223372036854775807) (hw:JO t) (hs:tsz t<=1048576):G 266 [od o,tm t]=some (vb (jeE o t),[]):=by
 have e1:=Zd t hw hs;have e2:=jqV o ho t hw;rw [jMa,jeE];cases h:kZ t<;>rw [h] at e1<;>simp only [jd,e1,e2,jJ,jH]
def jin (o:Ord') (n:List UInt8):Int:=match qE n o.syms with|some k=>o.ws.getD k 0|none=>0
mutual
def wt (o:Ord'):T->Int
 | .mk n us=>(if ju n then o.var else jin o n)+wtL o us
def wtL (o:Ord'):List T->Int
 | []=>0
 | t::ts=>wt o t+wtL o ts
end
theorem jsn (o:Ord') (t:T):wt o t=(if ju t.name then o.var else jin o t.name)+wtL o t.args:=by cases t;rfl
theorem QO {o:Ord'} (h:y9 o=true):o.ws.length=o.syms.length/\1<=o.var/\o.var<=100/\ ∀i,i < o.syms.length->o.var<=o.ws.getD i 0/\o.ws.getD i 0<=100:=by
 simp only [y9,jy,kK,yS] at h;obtain ⟨_,h2,⟨h3,h4⟩,h5⟩:=h;refine ⟨h2,h3,h4,λi hi=> ?_⟩;have:=z7.1 h5 i (by simpa using hi);simp only [jvB,jy,yS,kK] at this;exact this.2.2
theorem jfw {o:Ord'} {n:List UInt8} (h:o.syms.contains n=true):∃k,qE n o.syms=some k/\k < o.syms.length:=by
 rw [<-QC] at h;obtain ⟨k,hk⟩:=Option.isSome_iff_exists.1 h;exact ⟨k,hk,(jiu hk).1⟩
theorem jpg {o:Ord'} (hv:y9 o=true) {n:List UInt8} (h:o.syms.contains n=true):jg 1 (ints o.ws) (vi (yx 0 (qE n o.syms)))=some (.elt (ci (jin o n)) 0)/\1<=jin o n/\jin o n<=100:=by
 obtain ⟨k,hk,hlt⟩:=jfw h;obtain ⟨h1,h2,h3,h4⟩:=QO hv;have h5:=h4 k hlt;have hlt':k < o.ws.length:=by omega
 have e:jin o n=o.ws[k]:=by simp [jin,hk,zO,hlt']
 rw [hk];have e2:yx 0 (some k)=((k:Nat):Int):=by simp [yx]
 rw [e2,J3 hlt',e];have e3:o.ws.getD k 0=o.ws[k]:=by simp [zO,hlt']
 rw [e3] at h5;exact ⟨rfl,by omega,by omega⟩
theorem jdE {o:Ord'} (hv:y9 o=true):∀t:T,KX o.syms t=true->1<=wt o t/\wt o t<=100 * nodes t:=by
 refine T.ind λt ih hc=> ?_;rw [J7,jy] at hc;obtain ⟨h1,h2,h3,_⟩:=QO hv;have hL:∀ts:List T,(∀u∈ts,1<=wt o u/\wt o u<=100 * nodes u)->0<=wtL o ts/\wtL o ts<=100 * js ts:=by
  intro ts;induction ts with
  | nil=>intro _;simp [wtL,js]
  | cons u us ih=>
   intro h;have a:=h u (by simp);have b:=ih λv hv=>h v (by simp [hv]);simp only [wtL,js];omega
 have hb:=hL t.args λu hu=>ih u hu (by
  have:=hc.2;rw [jaL] at this;exact z7.1 this u hu)
 rw [jsn,jS];cases hn:ju t.name with
 | true=>simp only [Jk];omega
 | false=>
  have hcn:=hc.1;rw [hn,zI] at hcn;have:=(jpg hv hcn).2;simp only [K5,KU];omega
theorem ja6 {o:Ord'} (hv:y9 o=true) {ts:List T} (hc:YR o.syms ts=true):0<=wtL o ts/\wtL o ts<=100 * js ts:=by
 induction ts with
 | nil=>simp [wtL,js]
 | cons u us ih=>
  simp only [YR,jy] at hc;have a:=jdE hv u hc.1;have b:=ih hc.2;simp only [wtL,js];omega
theorem jjq {l:List (List UInt8)} {ts:List T} (h:YR l ts=true) (i:Nat):YR l (ts.drop i)=true:=by
 rw [jaL] at h ⊢;exact z7.2 λu hu=>z7.1 h u (jso hu)
theorem Km {l:List (List UInt8)} {ts:List T} (h:YR l ts=true) {u:T} (hu:u∈ts):KX l u=true:=by
 rw [jaL] at h;exact z7.1 h u hu
theorem jsm {o:Ord'} (hv:y9 o=true) (ts:List T) (hl:ts.length<=9223372036854775807) (hn:js ts<=1048577) (hc:YR o.syms ts=true) (ih:∀t∈ts,G 329 [od o,tm t]=some (vi (wt o t),[])) :
  ∀i,i<=ts.length-> ∀a:Int,0<=a->a+wtL o (ts.drop i)<=200000000->jn4 (vi a) (jQ ts) (vi (ts.length:Nat)) (vi i) (strs o.syms) (ints o.ws) (vi o.var)=some (vi (a+wtL o (ts.drop i)),[]):=by
 refine upto ?_ ?_
 .intro a ha hb;rw [jzC,j6];simp only [jd,wtL,Int.add_zero]
 .intro i hi ih' a ha hb;have hlt:(i:Int) < ((ts.length:Nat):Int):=by omega
  have h5:=jm hi hl;have e1:=ih ts[i] (jo _);have b1:=jdE hv ts[i] (Km hc (jo _));have b2:=ja6 hv (jjq hc (i+1));rw [jh hi] at hb ⊢;simp only [wtL] at hb ⊢;have hk:ck (a+wt o ts[i])=some (vi (a+wt o ts[i])):=jZ (by omega) (by omega);have ih':=ih' (a+wt o ts[i]) (by omega) (by omega);rw [jzC];simp only [jd,hlt,ja hi,jf,e1,hk,h5,ih',Int.add_assoc]
theorem jm3 {o:Ord'} (hv:y9 o=true) (ho:o.syms.length<=9223372036854775807):∀t:T,JO t->tsz t<=1048576->yH t=true->KX o.syms t=true->G 329 [od o,tm t]=some (vi (wt o t),[]):=by
 refine T.ind λt ih hw hs hk hc=> ?_;obtain ⟨w1,w2,w3⟩:=(kJ t).1 hw;have w3:=(kD _).1 w3;have e1:=YT t hk;have hb:=jdE hv t hc;have hn:=qG t;rw [jS] at hn;rw [jS] at hb;have hks:=zM hk;rw [yW] at hk;rw [J7,jy] at hc;rw [jsn] at hb ⊢;rw [jMM];cases hvn:ju t.name<;>rw [hvn] at e1 hc hk hb
 .have hcn:=hc.1;rw [zI] at hcn;obtain ⟨e2,e3,e4⟩:=jpg hv hcn;have e5:=jbE o.syms t.name ho;have hbl:=ja6 hv hc.2;have key:=jsm hv t.args w2 (by omega) hc.2 (λu hu=>ih u hu (w3 u hu) (by have:=yC hu;rw [kQ] at hs;omega) (hks u hu) (Km hc.2 hu)) 0 (jD _) (jin o t.name) (by omega) (by simp only [kg];omega);simp only [jP,kg] at key;simp only [jd,e1,e5,e2,key]
 .simp only [Jk] at hk;have:t.args = []:=jlh.1 hk;rw [this];simp only [jd,e1,wtL,Int.add_zero]
theorem jlz {o:Ord'} (hv:y9 o=true) (n:List UInt8) (ts:List T) (hl:ts.length<=9223372036854775807) (hc:YR o.syms ts=true) (ih:∀t∈ts,G 296 [od o,tm t]=some (vi (wt o t),[])) :
  ∀i,i<=ts.length-> ∀a:Int,0<=a->a+wtL o (ts.drop i)<=200000000->jjc (vi a) (vi i) (strs o.syms) (ints o.ws) (vi o.var) (sv n) (jQ ts)=some (vi (a+wtL o (ts.drop i)),[]):=by
 refine upto ?_ ?_
 .intro a ha hb;rw [jzs,j6];simp only [jd,wtL,Int.add_zero]
 .intro i hi ih' a ha hb;have hlt:(i:Int) < ((ts.length:Nat):Int):=by omega
  have h5:=jm hi hl;have e1:=ih ts[i] (jo _);have b1:=jdE hv ts[i] (Km hc (jo _));have b2:=ja6 hv (jjq hc (i+1));rw [jh hi] at hb ⊢;simp only [wtL] at hb ⊢;have hk:ck (a+wt o ts[i])=some (vi (a+wt o ts[i])):=jZ (by omega) (by omega);have ih':=ih' (a+wt o ts[i]) (by omega) (by omega);rw [jzs];simp only [jd,hlt,ja hi,jf,e1,hk,h5,ih',Int.add_assoc]
theorem jhN {o:Ord'} (hv:y9 o=true) (ho:o.syms.length<=9223372036854775807):∀t:T,JO t->tsz t<=1048576->KX o.syms t=true->G 296 [od o,tm t]=some (vi (wt o t),[]):=by
 refine T.ind λt ih hw hs hc=> ?_;obtain ⟨w1,w2,w3⟩:=(kJ t).1 hw;have w3:=(kD _).1 w3;have e1:=zy t.name w1;have hb:=jdE hv t hc;have hn:=qG t;rw [jS] at hn;rw [jS] at hb;obtain ⟨_,v2,v3,_⟩:=QO hv;rw [J7,jy] at hc;rw [jsn] at hb ⊢;rw [jMw];have hbl:=ja6 hv hc.2;have key:=λa h1 h2=>jlz hv t.name t.args w2 hc.2 (λu hu=>ih u hu (w3 u hu) (by have:=yC hu;rw [kQ] at hs;omega) (Km hc.2 hu)) 0 (jD _) a h1 h2;simp only [jP,kg] at key;cases hvn:ju t.name<;>rw [hvn] at e1 hc hb
 .have hcn:=hc.1;rw [zI] at hcn;obtain ⟨e2,e3,e4⟩:=jpg hv hcn;have e5:=jiz o t.name ho;have key:=key (jin o t.name) (by omega) (by omega);simp only [jd,e1,e5,e2,key]
 .have key:=key o.var (by omega) (by omega);simp only [jd,e1,key]
theorem jl4 {o:Ord'} {t:T} (h:jeE o t=true):yH t=true/\KX o.syms t=true/\nodes t<=30:=by
 simp only [jeE,kZ,jG,jy,kK] at h;exact ⟨h.1.2,h.2,h.1.1.1⟩
def jE0 (o:Ord') (t:T):A:=if y9 o && jeE o t then .tup [vi (wt o t),vb true] else .tup [vi 0,vb false]
theorem jfT (a b:A):ky 2 (.elt [a,b] 0)=some (.agg [a,b]):=rfl
theorem jfU (a b c:A):ky 3 (.elt [a,b,c] 0)=some (.agg [a,b,c]):=rfl
noncomputable def dq {α:Type} (a b:α):Bool:=@decide (a=b) (Classical.propDecidable _)
theorem Ji {α:Type} {a b:α} :dq a b=true↔a=b:=by unfold dq;exact @jvu _ (Classical.propDecidable _)
theorem jjs {α:Type} {a b:α} :dq a b=false↔ ¬a=b:=by unfold dq;exact @jcg _ (Classical.propDecidable _)
theorem jdO {α:Type} (a:α):dq a a=true:=Ji.2 rfl
theorem jis {α:Type} (a b:α) (l r:List α):dq (a::l) (b::r)=(dq a b && dq l r):=by
 rw [jss,jy,Ji,Ji,Ji,ZS]
theorem jEa (s t:T):dq s t=(decide (s.name=t.name) && dq s.args t.args):=by
 cases s with
 | mk n us=>cases t with
  | mk m vs=>rw [jss,jy,Ji,Ji,jvu,T.mk.injEq];rfl
theorem jol {α:Type} {a b:List α} (h:¬a.length=b.length):dq a b=false:=jjs.2 λe=>h (by rw [e])
theorem jie (ts us:List T) (hl:ts.length<=9223372036854775807) (hlen:ts.length=us.length) (ih:∀t∈ts,∀u∈us,G 157 [tm t,tm u]=some (vb (dq t u),[])) :
  ∀i,i<=ts.length->jnz (jQ us) (.fn 157 []) (jQ ts) (vi (ts.length:Nat)) (vi i)=some (vb (dq (ts.drop i) (us.drop i)),[]):=by
 refine upto ?_ ?_
 .rw [jyR,j6,hlen,j6,jdO];simp only [jd]
 .intro i hi ih';have hlt:(i:Int) < ((ts.length:Nat):Int):=by omega
  have hi2:i < us.length:=by omega
  have h5:=jm hi hl;have e1:=ih ts[i] (jo _) us[i] (jo _);rw [jyR,jh hi,jh hi2,jis];cases hp:dq ts[i] us[i]<;>rw [hp] at e1
  .simp only [jd,hlt,ja hi,ja hi2,jf,qD (f:=157) rfl,JD,e1,jH]
  .simp only [jd,hlt,ja hi,ja hi2,jf,qD (f:=157) rfl,JD,e1,h5,ih',jJ]
theorem zQ:∀s:T,JO s-> ∀t:T,JO t->G 157 [tm s,tm t]=some (vb (dq s t),[]):=by
 refine T.ind λs ih hw t hw'=> ?_;obtain ⟨w1,w2,w3⟩:=(kJ s).1 hw;have w3:=(kD _).1 w3;obtain ⟨v1,v2,v3⟩:=(kJ t).1 hw';have v3:=(kD _).1 v3;rw [jKT,jEa];by_cases hn:s.name=t.name
 .have e:G 207 [jQ s.args,jQ t.args,.fn 157 []]=some (vb (dq s.args t.args),[]):=by
   rw [jLt];by_cases hlen:s.args.length=t.args.length
   .have key:=jie s.args t.args w2 hlen (λa ha b hb=>ih a ha (w3 a ha) b (v3 b hb)) 0 (jD _);simp only [jP,kg] at key;rw [hlen] at key;simp only [jd,hlen,key]
   .have hlen':¬((s.args.length:Nat):Int)=((t.args.length:Nat):Int):=by omega
    simp only [jd,hlen',jol hlen]
  simp only [jd,hn,e,jJ]
 .simp only [jd,hn,jH]
theorem jqQ (n m:List UInt8) (ts us:List T) (hl:ts.length<=9223372036854775807) (hlen:ts.length=us.length) (ih:∀t∈ts,∀u∈us,G 105 [tm t,tm u]=some (vb (dq t u),[])) :
  ∀i,i<=ts.length->jnb (vi i) (sv n) (jQ ts) (sv m) (jQ us)=some (vb (dq (ts.drop i) (us.drop i)),[]):=by
 refine upto ?_ ?_
 .rw [jyf,j6,hlen,j6,jdO];simp only [jd,hlen]
 .intro i hi ih';have hlt:(i:Int) < ((ts.length:Nat):Int):=by omega
  have hi2:i < us.length:=by omega
  have h5:=jm hi hl;have e1:=ih ts[i] (jo _) us[i] (jo _);rw [jyf,jh hi,jh hi2,jis];cases hp:dq ts[i] us[i]<;>rw [hp] at e1
  .simp only [jd,hlt,ja hi,ja hi2,jf,e1,jH]
  .simp only [jd,hlt,ja hi,ja hi2,jf,e1,h5,ih',jJ]
theorem Jd:∀s:T,JO s-> ∀t:T,JO t->G 105 [tm s,tm t]=some (vb (dq s t),[]):=by
 refine T.ind λs ih hw t hw'=> ?_;obtain ⟨w1,w2,w3⟩:=(kJ s).1 hw;have w3:=(kD _).1 w3;obtain ⟨v1,v2,v3⟩:=(kJ t).1 hw';have v3:=(kD _).1 v3;rw [jKq,jEa];by_cases hn:s.name=t.name
 .by_cases hlen:s.args.length=t.args.length
  .have key:=jqQ t.name t.name s.args t.args w2 hlen (λa ha b hb=>ih a ha (w3 a ha) b (v3 b hb)) 0 (jD _);simp only [jP,kg] at key;simp only [jd,hn,hlen,key,jJ]
  .have hlen':¬((s.args.length:Nat):Int)=((t.args.length:Nat):Int):=by omega
   simp only [jd,hn,hlen',jol hlen,yb]
 .simp only [jd,hn,jH]
def rk (o:Ord') (t:T):Int:=yx 0 (qE t.name o.syms)
def jcq (a b:Int):Int:=if a < b then -1 else if b < a then 1 else 0
def yl (o:Ord') (s t:T):Int:=if rk o s=rk o t then jcq (s.args.length:Nat) (t.args.length:Nat) else jcq (rk o s) (rk o t)
theorem jCa (o:Ord') (s t:T) (ho:o.syms.length<=9223372036854775807):G 297 [od o,tm s,tm t]=some (vi (yl o s t),[]):=by
 have e1:=jiz o s.name ho;have e2:=jiz o t.name ho;rw [jMx];by_cases h:rk o s=rk o t
 .have h':yx 0 (qE s.name o.syms)=yx 0 (qE t.name o.syms):=h;by_cases h1:((s.args.length:Nat):Int) < ((t.args.length:Nat):Int)
  .simp only [jd,e1,e2,h',yl,rk,jcq,h1]
  .by_cases h2:((t.args.length:Nat):Int) < ((s.args.length:Nat):Int)
   .simp only [jd,e1,e2,h',yl,rk,jcq,h1,h2]
   .simp only [jd,e1,e2,h',yl,rk,jcq,h1,h2]
 .have h':¬yx 0 (qE s.name o.syms)=yx 0 (qE t.name o.syms):=h;by_cases h1:yx 0 (qE s.name o.syms) < yx 0 (qE t.name o.syms)
  .simp only [jd,e1,e2,h',yl,rk,jcq,h1]
  .by_cases h2:yx 0 (qE t.name o.syms) < yx 0 (qE s.name o.syms)
   .simp only [jd,e1,e2,h',yl,rk,jcq,h1,h2]
   .simp only [jd,e1,e2,h',yl,rk,jcq,h1,h2]
theorem jrw (o:Ord') (s t:T) (ho:o.syms.length<=9223372036854775807):G 330 [od o,tm s,tm t]=some (vb (decide (yl o s t < 0)),[]):=by
 have e1:=jbE o.syms s.name ho;have e2:=jbE o.syms t.name ho;rw [jMN];by_cases h:rk o s=rk o t
 .have h':yx 0 (qE s.name o.syms)=yx 0 (qE t.name o.syms):=h;by_cases h1:((s.args.length:Nat):Int) < ((t.args.length:Nat):Int)
  .simp only [jd,e1,e2,h',yl,rk,jcq,h1]
  .by_cases h2:((t.args.length:Nat):Int) < ((s.args.length:Nat):Int)
   .simp only [jd,e1,e2,h',yl,rk,jcq,h1,h2];rfl
   .simp only [jd,e1,e2,h',yl,rk,jcq,h1,h2]
 .have h':¬yx 0 (qE s.name o.syms)=yx 0 (qE t.name o.syms):=h;by_cases h1:yx 0 (qE s.name o.syms) < yx 0 (qE t.name o.syms)
  .simp only [jd,e1,e2,h',yl,rk,jcq,h1]
  .have h2:yx 0 (qE t.name o.syms) < yx 0 (qE s.name o.syms):=by omega
   simp only [jd,e1,e2,h',yl,rk,jcq,h1,h2];rfl
noncomputable def fd:List T->List T->Option (T × T)
 | a::l,b::r=>if dq a b=true then fd l r else some (a,b)
 | _,_=>none
theorem joo:∀ {l r:List T} {a b:T},fd l r=some (a,b)->a∈l/\b∈r
 | [],_,_,_,h=>by simp [fd] at h
 | _::_,[],_,_,h=>by simp [fd] at h
 | x::l,y::r,a,b,h=>by
  simp only [fd] at h;split at h
  .have:=joo h;exact ⟨by simp [this.1],by simp [this.2]⟩
  .cases h;exact ⟨by simp,by simp⟩
theorem jxX (s t:T) (hw:JO s) (hw':JO t) (hlen:s.args.length=t.args.length) :
  (fd s.args t.args=none/\G 298 [tm s,tm t]=some (vi (-1),[]))\/ ∃(k:Nat) (h1:k < s.args.length) (h2:k < t.args.length),fd s.args t.args=some (s.args[k],t.args[k])/\G 298 [tm s,tm t]=some (vi k,[]):=by
 obtain ⟨w1,w2,w3⟩:=(kJ s).1 hw;have w3:=(kD _).1 w3;obtain ⟨v1,v2,v3⟩:=(kJ t).1 hw';have v3:=(kD _).1 v3;have key:=upto (P:=λi=>(fd (s.args.drop i) (t.args.drop i)=none/\jjd (vi i) (sv s.name) (jQ s.args) (sv t.name) (jQ t.args)=some (vi (-1),[]))\/ ∃(k:Nat) (h1:k < s.args.length) (h2:k < t.args.length),fd (s.args.drop i) (t.args.drop i)=some (s.args[k],t.args[k])/\jjd (vi i) (sv s.name) (jQ s.args) (sv t.name) (jQ t.args)=some (vi k,[])) (n:=s.args.length) ?_ ?_ 0 (jD _)
 .simp only [jP,kg] at key;rw [jMy];rcases key with ⟨h1,h2⟩|⟨k,h1,h2,h3,h4⟩
  .exact Or.inl ⟨h1,by simp only [jd,h2]⟩
  .exact Or.inr ⟨k,h1,h2,h3,by simp only [jd,h4]⟩
 .left;rw [jzt,j6];refine ⟨by simp [fd],?_⟩;simp only [jd]
 .intro i hi ih;have hlt:(i:Int) < ((s.args.length:Nat):Int):=by omega
  have hi2:i < t.args.length:=by omega
  have h5:=jm hi w2;have e1:=Jd s.args[i] (w3 _ (jo _)) t.args[i] (v3 _ (jo _));rw [jzt,jh hi,jh hi2,fd];cases hp:dq s.args[i] t.args[i]<;>rw [hp] at e1
  .refine Or.inr ⟨i,hi,hi2,by simp,?_⟩;simp only [jd,hlt,ja hi,ja hi2,jf,e1]
  .simp only [jd,hlt,ja hi,ja hi2,jf,e1,h5];exact ih
def zT:A:= .agg [sv [],.sl 2 []]
noncomputable def fdR (s t:T):A:=match fd s.args t.args with|some (a,b)=> .tup [tm a,tm b,vb true]|none=> .tup [zT,zT,vb false]
theorem jfz (s t:T) (hw:JO s) (hw':JO t) (hn:s.name=t.name) (hlen:s.args.length=t.args.length):G 331 [tm s,tm t]=some (fdR s t,[]):=by
 obtain ⟨w1,w2,w3⟩:=(kJ s).1 hw;have w3:=(kD _).1 w3;obtain ⟨v1,v2,v3⟩:=(kJ t).1 hw';have v3:=(kD _).1 v3;have key:=upto (P:=λi=>jn5 (jQ s.args) (vi (s.args.length:Nat)) (vi i) (sv t.name) (jQ t.args) (sv []) (sv []) [] []=some ((match fd (s.args.drop i) (t.args.drop i) with|some (a,b)=> .tup [tm a,tm b,vb true]|none=> .tup [zT,zT,vb false]),[])) (n:=s.args.length) ?_ ?_ 0 (jD _)
 .simp only [jP,kg] at key;rw [jFU,fdR];simp only [hlen] at key;simp only [jd,hn,hlen,key]
 .rw [jzD,j6];simp only [jd,fd,zT]
 .intro i hi ih;have hlt:(i:Int) < ((s.args.length:Nat):Int):=by omega
  have hi2:i < t.args.length:=by omega
  have h5:=jm hi w2;have e1:=zQ s.args[i] (w3 _ (jo _)) t.args[i] (v3 _ (jo _));rw [jzD,jh hi,jh hi2,fd];cases hp:dq s.args[i] t.args[i]<;>rw [hp] at e1
  .simp only [jd,hlt,ja hi,ja hi2,jf,e1]
  .simp only [jd,hlt,ja hi,ja hi2,jf,e1,h5,ih]
theorem jfA (s t:T) (h:¬(s.name=t.name/\s.args.length=t.args.length)):G 331 [tm s,tm t]=some (.tup [zT,zT,vb false],[]):=by
 rw [jFU];by_cases hn:s.name=t.name
 .have hlen':¬((s.args.length:Nat):Int)=((t.args.length:Nat):Int):=λe=>h ⟨hn,by omega⟩;simp only [jd,hn,hlen',zT]
 .simp only [jd,hn,zT]
noncomputable def jvZ (o:Ord'):Nat->T->T->Bool
 | 0,_,_=>false
 | n+1,s,t=>if ju s.name then false else if (s.args.any λa=>dq a t || jvZ o n a t) then true else if ju t.name then false
   else if (t.args.any λb=> !jvZ o n s b) then false else if 0 < yl o s t then true else if yl o s t < 0 then false
   else match fd s.args t.args with|some (a,b)=>jvZ o n a b|none=>false
theorem jEU {o:Ord'} {s t:T} (h1:o.syms.contains s.name=true) (h2:o.syms.contains t.name=true) (h:rk o s=rk o t):s.name=t.name:=by
 obtain ⟨k,hk,_⟩:=jfw h1;obtain ⟨j,hj,_⟩:=jfw h2;have a1:=(jiu hk).2;have a2:=(jiu hj).2;simp only [rk,hk,hj,yx,yc] at h;have:k=j:=by omega
 subst this;rw [a1] at a2;exact Yx a2
theorem jtL (o:Ord') (s t:T):yl o t s = - yl o s t:=by
 unfold yl;by_cases h:rk o s=rk o t
 .rw [jp h,jp h.symm];unfold jcq;split<;>split<;>(try split)<;>omega
 .rw [jq h,jq (Ne.symm h)];unfold jcq;split<;>split<;>(try split)<;>omega
def jcU (e g l:Bool):Int:=if e then 1 else if g then 2 else if l then 3 else 0
theorem jvV (e g l:Bool):G 267 [vb e,vb g,vb l]=some (vi (jcU e g l),[]):=by
 rw [jMb];cases e<;>cases g<;>cases l<;>simp only [jd,jcU]
theorem jkd {f g:FuncId} {caps caps':List A} (hf:K.pureF f=true) (hg:K.pureF g=true) (e gr le:Bool) (h1:G f caps=some (vb gr,[])) (h2:G g caps'=some (vb le,[])) :
  G 285 [vb e,.fn f caps,.fn g caps']=some (vi (jcU e gr le),[]):=by
 rw [jMq];cases e<;>cases gr<;>cases le<;>simp only [jd,qD hf,qD hg,qQ,h1,h2,jcU]
noncomputable def jD6 (o:Ord') (s t:T):Int:=jcU (dq s t) (jvZ o (nodes s+nodes t) s t) (jvZ o (nodes s+nodes t) t s)
noncomputable def jD8 (o:Ord') (s t:T):A:=if y9 o && (jeE o s && jeE o t) then .tup [vi (jD6 o s t),vb true] else .tup [vi 0,vb false]
theorem YU {left:Int} {n:Nat} (h0:0<=left) (h1:left<=1048576) (h:¬ko left (n:Int) < 0):0<=ko left (n:Int)/\ko left (n:Int)<=1048576/\n<=1048576:=by
 unfold ko at h ⊢;split at h
 .rename_i hc;rw [jp hc];omega
 .exact absurd juU h
mutual
def kT:T->List (List UInt8)
 | .mk n us=>if ju n then [n] else yv us
def yv:List T->List (List UInt8)
 | []=>[]
 | t::ts=>kT t++yv ts
end
theorem Qg (t:T):kT t=if ju t.name then [t.name] else yv t.args:=by cases t;rfl
theorem Ka {n:Nat} (h:n<=4000000):jK n 16=true:=by
 unfold jK;simp;omega
def je7 (l:List (List UInt8)) (vs:List (List UInt8)) (k:Nat) (r:List (List UInt8)):Prop:=(∀n,n∈r↔n∈l\/n∈vs)/\r.length<=l.length+k
theorem jlr (ts:List T) (hl:ts.length<=9223372036854775807) (hn:js ts<=1048577) (ih:∀t∈ts,∀l:List (List UInt8),l.length+nodes t<=2100000-> ∃r,jbc (sv t.name) (jQ t.args) (l.map cs)=some (.top,[strs r])/\je7 l (kT t) (nodes t) r) :
  ∀i,i<=ts.length-> ∀l:List (List UInt8),l.length+js (ts.drop i)<=2100000-> ∃r,jaE (jQ ts) (vi (ts.length:Nat)) (vi i) (l.map cs)=some (.top,[strs r])/\je7 l (yv (ts.drop i)) (js (ts.drop i)) r:=by
 refine upto ?_ ?_
 .intro l hb;rw [jda,j6];refine ⟨l,?_,by simp [yv],by omega⟩;simp only [jd]
 .intro i hi ih' l hb;have hlt:(i:Int) < ((ts.length:Nat):Int):=by omega
  have h5:=jm hi hl;rw [jh hi] at hb ⊢;simp only [js,yv] at hb ⊢;obtain ⟨r1,e1,c1,c2⟩:=ih ts[i] (jo _) l (by omega);obtain ⟨r2,e2,d1,d2⟩:=ih' r1 (by omega);rw [jda];refine ⟨r2,?_,?_,by omega⟩
  .simp only [jd,hlt,ja hi,jf,e1,h5,e2]
  .intro n;rw [d1,c1,kM];exact Ya
theorem jsT:∀t:T,JO t->yH t=true->nodes t<=1048577-> ∀l:List (List UInt8),l.length+nodes t<=2100000-> ∃r,jbc (sv t.name) (jQ t.args) (l.map cs)=some (.top,[strs r])/\je7 l (kT t) (nodes t) r:=by
 refine T.ind λt ih hw hk hn l hb=> ?_;obtain ⟨w1,w2,w3⟩:=(kJ t).1 hw;have w3:=(kD _).1 w3;have hks:=zM hk;have e1:=YT t hk;rw [jxt,Qg];have hpos:=qH t;rw [jS] at hn hb ⊢;cases hv:ju t.name<;>rw [hv] at e1
 .
  have ih':∀u∈t.args,∀l:List (List UInt8),l.length+nodes u<=2100000-> ∃r,jbc (sv u.name) (jQ u.args) (l.map cs)=some (.top,[strs r])/\je7 l (kT u) (nodes u) r:=λu hu=>ih u hu (w3 u hu) (hks u hu) (by have:=qw hu;omega)
  have loop:=jlr t.args w2 (by omega) ih';have start:∃r,jcH (jQ t.args) (vi (t.args.length:Nat)) (vi 0) (l.map cs)=some (.top,[strs r])/\je7 l (yv t.args) (js t.args) r:=by
   rw [jqJ];by_cases h0:t.args.length=0
   .have ha:t.args = []:=jhr.1 h0;rw [ha];refine ⟨l,?_,by simp [yv],by simp [js]⟩;simp only [jd];rfl
   .have hi:0 < t.args.length:=by omega
    have hlt:(0:Int) < ((t.args.length:Nat):Int):=by omega
    have hix:jg 2 (jQ t.args) (vi 0)=some (.elt (jw t.args[0]) 0):=ja (i:=0) hi;have h5:jr .add false (vi 0) (vi 1)=some (vi ((1:Nat):Int)):=by rw [KO,jZ (by decide) (by decide)];rfl
    have hd:t.args=t.args[0]::t.args.drop 1:=by have:=jh hi;simpa using this
    have hns:js t.args=nodes t.args[0]+js (t.args.drop 1):=by conv=>lhs;rw [hd,js]
    have hvs:yv t.args=kT t.args[0]++yv (t.args.drop 1):=by conv=>lhs;rw [hd,yv]
    obtain ⟨r1,e1,c1,c2⟩:=ih' t.args[0] (jo _) l (by omega);obtain ⟨r2,e2,d1,d2⟩:=loop 1 (by omega) r1 (by omega);refine ⟨r2,?_,?_,by omega⟩
    .simp only [jd,hlt,hix,jf,e1,h5,e2]
    .intro n;rw [d1,c1,hvs,kM];exact Ya
  obtain ⟨r,e2,d1,d2⟩:=start;refine ⟨r,?_,by simpa using d1,by omega⟩;cases h0:decide (((t.args.length:Nat):Int)=0)
  .simp only [jd,h0,e2]
  .simp only [jd,h0,e1,e2]
 .have ha:t.args = []:=by
   rw [yW,hv] at hk;simpa using hk
  have h0:decide (((t.args.length:Nat):Int)=0)=true:=by rw [ha];rfl
  have e3:=Zv l t.name (by omega);cases hc:l.contains t.name<;>rw [hc] at e3
  .have hf:jK (l.length+1) 16=true:=Ka (by omega);refine ⟨l++[t.name],?_,by simp,by simp⟩;have happ:jU (l.map cs) [[sv t.name]]=(l++[t.name]).map cs:=by simp [jU]
   simp only [jd,h0,e1,e3,hf,happ]
  .refine ⟨l,?_,λn=>⟨λh=>Or.inl h,λh=>by
    rcases h with h|h
    .exact h
    .simp at h;subst h;simpa using hc⟩,by omega⟩
   simp only [jd,h0,e1,e3]
theorem jgc (t:T) (hw:JO t) (hk:yH t=true) (hn:nodes t<=1048577):∃r,G 328 [tm t]=some (strs r,[])/\(∀n,n∈r↔n∈kT t)/\r.length<=9223372036854775807:=by
 obtain ⟨r,e1,c1,c2⟩:=jsT t hw hk hn [] (by simp;omega)
 have e2:jm8 (r.map cs)=some (.top,[strs (y5 r)]):=by
  rw [jyb];simp only [jr2,je1];rw [jp (by simp at c2;omega)]
 refine ⟨y5 r,?_,λn=> ?_,by simp [y5];simp at c2;omega⟩
 .rw [jML];simp only [ye] at e1;simp only [jd,e1,e2]
 .unfold y5;rw [List.mem_mergeSort,c1];simp
mutual
def cnt (n:List UInt8):T->Nat
 | .mk m us=>(if m=n then 1 else 0)+Yj n us
def Yj (n:List UInt8):List T->Nat
 | []=>0
 | t::ts=>cnt n t+Yj n ts
end
theorem jgL (n:List UInt8) (t:T):cnt n t=(if t.name=n then 1 else 0)+Yj n t.args:=by cases t;rfl
theorem jD7 (n:List UInt8):∀t:T,cnt n t<=nodes t:=by
 refine T.ind λt ih=> ?_;have:∀ts:List T,(∀u∈ts,cnt n u<=nodes u)->Yj n ts<=js ts:=by
  intro ts;induction ts with
  | nil=>intro _;simp [Yj]
  | cons u us ih=>
   intro h;have h1:=h u (by simp);have h2:=ih λv hv=>h v (by simp [hv]);simp only [Yj,js];omega
 have h:=this t.args ih;rw [jgL,jS];split<;>omega
theorem juz (n:List UInt8) (ts:List T):Yj n ts<=js ts:=by
 induction ts with
 | nil=>simp [Yj]
 | cons u us ih=>have:=jD7 n u;simp only [Yj,js];omega
theorem jjp (n:List UInt8) (ts:List T) (hl:ts.length<=9223372036854775807) (hn:js ts<=1048577) (ih:∀t∈ts,G 313 [tm t,sv n]=some (vi (cnt n t:Nat),[])) :
  ∀i,i<=ts.length-> ∀a:Nat,a+Yj n (ts.drop i)<=1048579->jjf (sv n) (vi a) (jQ ts) (vi (ts.length:Nat)) (vi i)=some (vi ((a+Yj n (ts.drop i):Nat):Int),[]):=by
 refine upto ?_ ?_
 .intro a ha;rw [jzA,j6];simp only [jd,Yj,kC]
 .intro i hi ih' a ha;have hlt:(i:Int) < ((ts.length:Nat):Int):=by omega
  have h5:=jm hi hl;have e1:=ih ts[i] (jo _);rw [jh hi] at ha ⊢;simp only [Yj] at ha ⊢;have hk:ck ((a:Int)+((cnt n ts[i]:Nat):Int))=some (vi ((a+cnt n ts[i]:Nat):Int)):=by rw [jZ (by omega) (by omega)];rfl
  have ih':=ih' (a+cnt n ts[i]) (by omega);rw [jzA];simp only [jd,hlt,ja hi,jf,e1,hk,h5,ih',ja9]
theorem KI (n:List UInt8):∀t:T,JO t->nodes t<=1048577->G 313 [tm t,sv n]=some (vi (cnt n t:Nat),[]):=by
 refine T.ind λt ih hw hn=> ?_;obtain ⟨w1,w2,w3⟩:=(kJ t).1 hw;have w3:=(kD _).1 w3;rw [jS] at hn;have hc:=juz n t.args;have key:=λa h=>jjp n t.args w2 (by omega) (λu hu=>ih u hu (w3 u hu) (by have:=qw hu;omega)) 0 (jD _) a h;simp only [jP,kg] at key;rw [jMH,jgL];by_cases h:t.name=n
 .have key:=key 1 (by omega);simp only [jle] at key;simp only [jd,h,key]
 .have key:=key 0 (by omega);simp only [jP] at key;simp only [jd,h,key]
theorem joB (m n:List UInt8) (ts:List T) (hl:ts.length<=9223372036854775807) (hn:js ts<=1048577) (ih:∀t∈ts,G 334 [tm t,sv n]=some (vi (cnt n t:Nat),[])) :
  ∀i,i<=ts.length-> ∀a:Nat,a+Yj n (ts.drop i)<=1048579->jjh (sv n) (vi a) (vi i) (sv m) (jQ ts)=some (vi ((a+Yj n (ts.drop i):Nat):Int),[]):=by
 refine upto ?_ ?_
 .intro a ha;rw [jzF,j6];simp only [jd,Yj,kC]
 .intro i hi ih' a ha;have hlt:(i:Int) < ((ts.length:Nat):Int):=by omega
  have h5:=jm hi hl;have e1:=ih ts[i] (jo _);rw [jh hi] at ha ⊢;simp only [Yj] at ha ⊢;have hk:ck ((a:Int)+((cnt n ts[i]:Nat):Int))=some (vi ((a+cnt n ts[i]:Nat):Int)):=by rw [jZ (by omega) (by omega)];rfl
  have ih':=ih' (a+cnt n ts[i]) (by omega);rw [jzF];simp only [jd,hlt,ja hi,jf,e1,hk,h5,ih',ja9]
theorem jjN (n:List UInt8):∀t:T,JO t->nodes t<=1048577->G 334 [tm t,sv n]=some (vi (cnt n t:Nat),[]):=by
 refine T.ind λt ih hw hn=> ?_;obtain ⟨w1,w2,w3⟩:=(kJ t).1 hw;have w3:=(kD _).1 w3;rw [jS] at hn;have hc:=juz n t.args;have key:=λa h=>joB t.name n t.args w2 (by omega) (λu hu=>ih u hu (w3 u hu) (by have:=qw hu;omega)) 0 (jD _) a h;simp only [jP,kg] at key;rw [jMP,jgL];by_cases h:t.name=n
 .have key:=key 1 (by omega);simp only [jle] at key;rw [h] at key;simp only [jd,h,key]
 .have key:=key 0 (by omega);simp only [jP] at key;simp only [jd,h,key]
theorem jzv (l:List (List UInt8)) (s:List UInt8) (hl:l.length<=2100000):∃r,G 264 [strs l,sv s]=some (strs r,[])/\je7 l [s] 1 r:=by
 have key:=upto (P:=λi=>∃r,ji8 (strs l) (sv s) (vi i)=some (strs r,[])/\je7 l [s] 1 r) (n:=l.length) ?_ ?_ 0 (jD _)
 .simp only [jP] at key;rw [jFP];exact key
 .have hx:¬((l.length:Nat):Int) < ((l.length:Nat):Int):=Int.lt_irrefl _;have s1:zS 1 (strs l) none (some (vi (l.length:Nat)))=some (strs l):=by rw [qP (by simp),qf (by simp)]
  have s2:zS 1 (strs l) (some (vi (l.length:Nat))) none=some (.sl 1 []):=by rw [qt (by simp),jhk (by simp)]
  have f1:jK l.length 16=true:=Ka (by omega);have f2:jK (l.length+1) 16=true:=Ka (by omega);have happ:jU (jU (l.map cs) [[sv s]]) []=(l++[s]).map cs:=by simp [jU]
  have hlen:(jU (l.map cs) [[sv s]]).length=l.length+1:=by simp [jU]
  refine ⟨l++[s],?_,by intro n;simp,by simp⟩
  rw [joy];simp only [jd,hx,s1,s2,f1,f2,hlen,happ,kC]
 .intro i hi ih;have hlt:(i:Int) < ((l.length:Nat):Int):=by omega
  have h5:=jm hi (by omega);rw [joy];cases h1:yT l[i] s
  .by_cases h2:l[i]=s
   .refine ⟨l,?_,λn=>⟨λh=>Or.inl h,λh=>by
     rcases h with h|h
     .exact h
     .simp at h;rw [h,<-h2];exact jo _⟩,by omega⟩
    rw [h2] at h1;simp only [jd,hlt,ja hi,h2,h1]
   .have s1:zS 1 (strs l) none (some (vi i))=some (strs (l.take i)):=by rw [qP (by simp;omega),<-jev]
    have s2:zS 1 (strs l) (some (vi i)) none=some (strs (l.drop i)):=by rw [qt (by simp;omega),<-jgi]
    have ht:(l.take i).length=i:=by rw [qe];omega
    have f1:jK i 16=true:=Ka (by omega);have f2:jK (i+1) 16=true:=Ka (by omega);have f3:jK (i+1+(l.drop i).length) 16=true:=Ka (by rw [qR];omega);have happ:jU (jU ((l.take i).map cs) [[sv s]]) ((l.drop i).map cs)=(l.take i++[s]++l.drop i).map cs:=by simp [jU]
    have hlen:(jU ((l.take i).map cs) [[sv s]]).length=i+1:=by simp [jU];omega
    refine ⟨l.take i++[s]++l.drop i,?_,λn=> ?_,by simp;omega⟩
    .simp only [jd,hlt,ja hi,h1,h2,s1,s2,ht,f1,f2,f3,hlen,happ]
    .have hm:n∈l↔n∈l.take i\/n∈l.drop i:=by rw [<-kM,jew]
     simp only [kM,kG,hm];exact ⟨λh=>by rcases h with (h|h)|h<;>simp [h],λh=>by rcases h with (h|h)|h<;>simp [h]⟩
  .obtain ⟨r,e,c⟩:=ih;refine ⟨r,?_,c⟩;simp only [jd,hlt,ja hi,h1,h5,e]
theorem jvP:∀t:T,JO t-> ∀l:List (List UInt8),l.length+nodes t<=2100000-> ∃r,G 292 [strs l,tm t]=some (strs r,[])/\je7 l (kT t) (nodes t) r:=by
 refine T.ind λt ih hw l hb=> ?_;obtain ⟨w1,w2,w3⟩:=(kJ t).1 hw;have w3:=(kD _).1 w3;have e1:=zy t.name w1;rw [jMs,Qg];rw [jS] at hb ⊢;cases hv:ju t.name<;>rw [hv] at e1
 .have key:=upto (P:=λi=>∀l:List (List UInt8),l.length+js (t.args.drop i)<=2100000-> ∃r,jnX (strs l) (vi i) (sv t.name) (jQ t.args)=some (strs r,[])/\je7 l (yv (t.args.drop i)) (js (t.args.drop i)) r) (n:=t.args.length) ?_ ?_ 0 (jD _)
  .simp only [jP,kg] at key;obtain ⟨r,e,c1,c2⟩:=key l (by omega);refine ⟨r,?_,by simpa using c1,by omega⟩;simp only [jd,e1,e]
  .intro l hb;rw [jzn,j6];refine ⟨l,?_,by simp [yv],by omega⟩;simp only [jd]
  .intro i hi ih' l hb;have hlt:(i:Int) < ((t.args.length:Nat):Int):=by omega
   have h5:=jm hi w2;rw [jh hi] at hb ⊢;simp only [js,yv] at hb ⊢;obtain ⟨r1,a1,c1,c2⟩:=ih t.args[i] (jo _) (w3 _ (jo _)) l (by omega);obtain ⟨r2,a2,d1,d2⟩:=ih' r1 (by omega);rw [jzn];refine ⟨r2,?_,?_,by omega⟩
   .simp only [jd,hlt,ja hi,jf,a1,h5,a2]
   .intro n;rw [d1,c1,kM];exact Ya
 .obtain ⟨r,e,c1,c2⟩:=jzv l t.name (by omega);refine ⟨r,?_,by simpa using c1,by omega⟩;simp only [jd,e1,e]
theorem jmb (t:T) (hw:JO t) (hn:nodes t<=1048577):∃r,G 261 [tm t]=some (strs r,[])/\(∀n,n∈r↔n∈kT t)/\r.length<=9223372036854775807:=by
 obtain ⟨r,e,c1,c2⟩:=jvP t hw [] (by simp;omega)
 have e:G 292 [.sl 1 [],tm t]=some (strs r,[]):=e;refine ⟨r,?_,λn=>by rw [c1];simp,by simp at c2;omega⟩;rw [jL7];simp only [jd,e]
def bal (s t:T):Bool:=(kT t).all λn=>decide (cnt n t<=cnt n s)
theorem jxq {r:List (List UInt8)} {s t:T} (h:∀n,n∈r↔n∈kT t):(r.all λn=>decide (cnt n t<=cnt n s))=bal s t:=by
 unfold bal;rw [jss,z7,z7];exact ⟨λa n hn=>a n ((h n).2 hn),λa n hn=>a n ((h n).1 hn)⟩
theorem jpR (s t:T) (hw:JO s) (hw':JO t) (hs:nodes s<=1048577) (ht:nodes t<=1048577):G 295 [tm s,tm t]=some (vb (bal s t),[]):=by
 obtain ⟨r,e,c1,c2⟩:=jmb t hw' ht;have key:=upto (P:=λi=>jn0 (strs r) (vi i) (sv s.name) (jQ s.args) (sv t.name) (jQ t.args)=some (vb ((r.drop i).all λn=>decide (cnt n t<=cnt n s)),[])) (n:=r.length) ?_ ?_ 0 (jD _)
 .simp only [jP,kg] at key;rw [jxq c1] at key;rw [jMv];simp only [jd,e,key]
 .rw [jzr,j6];simp only [jd]
 .intro i hi ih;have hlt:(i:Int) < ((r.length:Nat):Int):=by omega
  have h5:=jm hi c2;have e1:=jjN r[i] s hw hs;have e2:=jjN r[i] t hw' ht;rw [jzr,jh hi,zB];by_cases h:cnt r[i] t<=cnt r[i] s
  .have h':¬((cnt r[i] s:Nat):Int) < ((cnt r[i] t:Nat):Int):=by omega
   simp only [jd,hlt,ja hi,e1,e2,h',h,h5,ih,jJ]
  .have h':((cnt r[i] s:Nat):Int) < ((cnt r[i] t:Nat):Int):=by omega
   simp only [jd,hlt,ja hi,e1,e2,h',h,jH]
noncomputable def Z2 (o:Ord'):Nat->T->T->Bool
 | 0,_,_=>false
 | n+1,s,t=>if bal s t then (if wt o s=wt o t then (if ju s.name || ju t.name then false else if yl o s t=0 then (match fd s.args t.args with|some (a,b)=>Z2 o n a b|none=>false) else decide (0 < yl o s t)) else decide (wt o t < wt o s)) else false
theorem jqB {s t a b:T} {n:Nat} (ha:a∈s.args) (hb:b∈t.args) (h:nodes s+nodes t<=n+1):nodes a+nodes b<=n:=by
 have h1:=qw ha;have h2:=qw hb;rw [jS s,jS t] at h;omega
theorem jmE {o:Ord'} {s t:T} (h:yl o s t=0):rk o s=rk o t/\s.args.length=t.args.length:=by
 unfold yl jcq at h;split at h
 .rename_i h1;refine ⟨h1,?_⟩;split at h
  .cases h
  .split at h
   .cases h
   .omega
 .split at h
  .cases h
  .split at h
   .cases h
   .omega
theorem jjR {o:Ord'} (hv:y9 o=true) (ho:o.syms.length<=9223372036854775807):∀(n:Nat) (s t:T),nodes s+nodes t<=n->JO s->JO t->tsz s<=1048576->tsz t<=1048576->KX o.syms s=true->KX o.syms t=true->G 268 [od o,tm s,tm t]=some (vb (Z2 o n s t),[])
 | 0,s,t,h,_,_,_,_,_,_=>by have:=qH s;omega
 | n+1,s,t,h,hw,hw',hs,ht,hc,hc'=>by
  obtain ⟨w1,w2,w3⟩:=(kJ s).1 hw;have w3:=(kD _).1 w3;obtain ⟨v1,v2,v3⟩:=(kJ t).1 hw';have v3:=(kD _).1 v3;have hns:=qG s;have hnt:=qG t;have e1:=jpR s t hw hw' (by omega) (by omega);have e2:=jhN hv ho s hw hs hc;have e3:=jhN hv ho t hw' ht hc';have e4:=zy s.name w1;have e5:=zy t.name v1;have e6:=jCa o s t ho;have cs1:∀a∈s.args,KX o.syms a=true:=λa ha=>by rw [J7,jy] at hc;exact Km hc.2 ha
  have cs2:∀a∈t.args,KX o.syms a=true:=λa ha=>by rw [J7,jy] at hc';exact Km hc'.2 ha
  rw [jMc,Z2];cases hb:bal s t<;>rw [hb] at e1
  .simp only [jd,e1]
  by_cases hwt:wt o s=wt o t;rotate_left
  .simp only [jd,e1,e2,e3,hwt]
  cases hv1:ju s.name<;>rw [hv1] at e4
  rotate_left
  .simp only [jd,e1,e2,e3,hwt,e4,Jh]
  cases hv2:ju t.name<;>rw [hv2] at e5
  rotate_left
  .simp only [jd,e1,e2,e3,hwt,e4,e5,zI]
  by_cases hr:yl o s t=0;rotate_left
  .simp only [jd,e1,e2,e3,hwt,e4,e5,e6,hr,zI]
  obtain ⟨_,hlen⟩:=jmE hr;rcases jxX s t hw hw' hlen with ⟨f1,f2⟩|⟨k,k1,k2,f1,f2⟩
  .have:¬(0:Int)<= -1:=by decide
   simp only [jd,e1,e2,e3,hwt,e4,e5,e6,hr,zI,f1,f2,this]
  .have m1:=jo k1;have m2:=jo k2;have e7:=jjR hv ho n s.args[k] t.args[k] (jqB m1 m2 h) (w3 _ m1) (v3 _ m2) (by have:=yC m1;rw [kQ] at hs;omega) (by have:=yC m2;rw [kQ] at ht;omega) (cs1 _ m1) (cs2 _ m2);have:(0:Int)<=(k:Int):=by omega
   simp only [jd,e1,e2,e3,hwt,e4,e5,e6,hr,zI,f1,f2,this,ja k1,ja k2,jf,e7]
theorem jta {o:Ord'} (hv:y9 o=true) (ho:o.syms.length<=9223372036854775807):∀(n:Nat) (s t:T),nodes s+nodes t<=n->JO s->JO t->tsz s<=1048576->tsz t<=1048576->yH s=true->yH t=true->KX o.syms s=true->KX o.syms t=true->G 287 [od o,tm s,tm t]=some (vb (Z2 o n s t),[])
 | 0,s,t,h,_,_,_,_,_,_,_,_=>by have:=qH s;omega
 | n+1,s,t,h,hw,hw',hs,ht,hk,hk',hc,hc'=>by
  obtain ⟨w1,w2,w3⟩:=(kJ s).1 hw;have w3:=(kD _).1 w3;obtain ⟨v1,v2,v3⟩:=(kJ t).1 hw';have v3:=(kD _).1 v3;have hns:=qG s;have hnt:=qG t;have ks:=zM hk;have ks':=zM hk';have e2:=jm3 hv ho s hw hs hk hc;have e3:=jm3 hv ho t hw' ht hk' hc';have e4:=YT s hk;have e5:=YT t hk';have e6:=jrw o t s ho;rw [jtL] at e6;have cs1:∀a∈s.args,KX o.syms a=true:=λa ha=>by rw [J7,jy] at hc;exact Km hc.2 ha
  have cs2:∀a∈t.args,KX o.syms a=true:=λa ha=>by rw [J7,jy] at hc';exact Km hc'.2 ha
  obtain ⟨r,er,c1,c2⟩:=jgc t hw' hk' (by omega);have tail:jja (strs r) (vi (r.length:Nat)) (vi (r.length:Nat)) (strs o.syms) (ints o.ws) (vi o.var) (sv s.name) (jQ s.args) (sv t.name) (jQ t.args)=some (vb (if wt o s=wt o t then (if ju s.name || ju t.name then false else if yl o s t=0 then (match fd s.args t.args with|some (a,b)=>Z2 o n a b|none=>false) else decide (0 < yl o s t)) else decide (wt o t < wt o s)),[]):=by
   rw [jtj];by_cases hwt:wt o s=wt o t;rotate_left
   .simp only [jd,e2,e3,hwt]
   have hnlt:¬wt o t < wt o s:=by omega
   cases hv1:ju s.name<;>rw [hv1] at e4
   rotate_left
   .simp only [jd,e2,e3,hwt,e4,Jh]
   cases hv2:ju t.name<;>rw [hv2] at e5
   rotate_left
   .simp only [jd,e2,e3,hwt,e4,e5,zI]
   by_cases hr:yl o s t=0
   .have hr':¬ -yl o s t < 0:=by omega
    obtain ⟨hrk,hlen⟩:=jmE hr;have hcn:o.syms.contains s.name=true:=by rw [J7,hv1,zI,jy] at hc;exact hc.1
    have hcn':o.syms.contains t.name=true:=by rw [J7,hv2,zI,jy] at hc';exact hc'.1
    have e7:=jfz s t hw hw' (jEU hcn hcn' hrk) hlen;cases hf:fd s.args t.args with
    | none=>
     have:fdR s t = .tup [zT,zT,vb false]:=by unfold fdR;rw [hf]
     rw [this] at e7;simp only [hr] at e6;simp only [jd,e2,e3,hwt,e4,e5,e6,hr,hr',zI,e7,zT,Int.neg_zero]
    | some p=>
     obtain ⟨a,b⟩:=p;have:fdR s t = .tup [tm a,tm b,vb true]:=by unfold fdR;rw [hf]
     rw [this] at e7;obtain ⟨ma,mb⟩:=joo hf;have e8:=jta hv ho n a b (jqB ma mb h) (w3 a ma) (v3 b mb) (by have:=yC ma;rw [kQ] at hs;omega) (by have:=yC mb;rw [kQ] at ht;omega) (ks a ma) (ks' b mb) (cs1 a ma) (cs2 b mb);simp only [hr] at e6;simp only [jd,e2,e3,hwt,e4,e5,e6,hr,hr',zI,e7,e8,Int.neg_zero]
   .by_cases hg:0 < yl o s t
    .have hg': -yl o s t < 0:=by omega
     simp only [jd,e2,e3,hwt,e4,e5,e6,hr,hg,hg',zI]
    .have hg':¬ -yl o s t < 0:=by omega
     have hno:¬(s.name=t.name/\s.args.length=t.args.length):=by
      rintro ⟨q1,q2⟩;apply hr;have:rk o s=rk o t:=by unfold rk;rw [q1]
      unfold yl jcq;rw [jp this,q2];simp
     have e7:=jfA s t hno;simp only [jd,e2,e3,hwt,e4,e5,e6,hr,hg,hg',zI,e7,zT]
  have key:=upto (P:=λi=>jja (strs r) (vi (r.length:Nat)) (vi i) (strs o.syms) (ints o.ws) (vi o.var) (sv s.name) (jQ s.args) (sv t.name) (jQ t.args)=some (vb (if ((r.drop i).all λn=>decide (cnt n t<=cnt n s)) then (if wt o s=wt o t then (if ju s.name || ju t.name then false else if yl o s t=0 then (match fd s.args t.args with|some (a,b)=>Z2 o n a b|none=>false) else decide (0 < yl o s t)) else decide (wt o t < wt o s)) else false),[])) (n:=r.length) ?_ ?_ 0 (jD _)
  .simp only [jP,kg] at key;rw [jxq c1] at key;rw [jFR,Z2];simp only [jd,er];exact key
  .rw [tail,j6];rfl
  .intro i hi ih;have hlt:(i:Int) < ((r.length:Nat):Int):=by omega
   have h5:=jm hi c2;have a1:=KI r[i] s hw (by omega);have a2:=KI r[i] t hw' (by omega);rw [jtj,jh hi,zB];by_cases hcn:cnt r[i] t<=cnt r[i] s
   .have h':¬((cnt r[i] s:Nat):Int) < ((cnt r[i] t:Nat):Int):=by omega
    simp only [jd,hlt,ja hi,a1,a2,h',hcn,h5,ih,jJ]
   .have h':((cnt r[i] s:Nat):Int) < ((cnt r[i] t:Nat):Int):=by omega
    simp only [jd,hlt,ja hi,a1,a2,h',hcn,jH]
noncomputable def jbw (o:Ord') (s t:T):Int:=jcU (dq s t) (Z2 o (nodes s+nodes t) s t) (Z2 o (nodes s+nodes t) t s)
noncomputable def jby (o:Ord') (s t:T):A:=if y9 o && (jeE o s && jeE o t) then .tup [vi (jbw o s t),vb true] else .tup [vi 0,vb false]
theorem jim (o:Ord') (s t:T) (ho:owf o) (hw:JO s) (hs:tsz s<=1048576) (hw':JO t) (hs':tsz t<=1048576):G 224 [od o,tm s,tm t]=some (jby o s t,[]):=by
 have e1:=jvW o ho;have e2:=jmd o s ho.1.2 hw hs;have e3:=jmd o t ho.1.2 hw' hs';have e4:=Jd s hw t hw';have e7:=jvV (dq s t) (Z2 o (nodes s+nodes t) s t) (Z2 o (nodes s+nodes t) t s);rw [jLJ,jby];cases h:y9 o<;>rw [h] at e1
 .simp only [jd,e1,jH]
 .cases h2:jeE o s<;>rw [h2] at e2
  .simp only [jd,e1,e2,yb,jH]
  .cases h3:jeE o t<;>rw [h3] at e3
   .simp only [jd,e1,e2,e3,yb]
   .have g2:=jl4 h2;have g3:=jl4 h3;have e5:=jjR h ho.1.2 (nodes s+nodes t) s t (kH _) hw hw' hs hs' g2.2.1 g3.2.1;have e6:=jjR h ho.1.2 (nodes s+nodes t) t s (by omega) hw' hw hs' hs g3.2.1 g2.2.1;simp only [jd,e1,e2,e3,e4,e5,e6,e7,jbw]
theorem jia {o:Ord'} (hv:y9 o=true) (s t:T) (ho:owf o) (hw:JO s) (hs:tsz s<=1048576) (hw':JO t) (hs':tsz t<=1048576) (hk:yH s=true) (hk':yH t=true) (hc:KX o.syms s=true) (hc':KX o.syms t=true):G 246 [od o,tm s,tm t]=some (vi (jbw o s t),[]):=by
 have e4:=zQ s hw t hw';have e5:=jta hv ho.1.2 (nodes s+nodes t) s t (kH _) hw hw' hs hs' hk hk' hc hc';have e6:=jta hv ho.1.2 (nodes s+nodes t) t s (by omega) hw' hw hs' hs hk' hk hc' hc;have c1:G 286 [.elt (joS o) 0,.elt [sv s.name,.sl 2 (s.args.map jw)] 0,.elt [sv t.name,.sl 2 (t.args.map jw)] 0]=some (vb (Z2 o (nodes s+nodes t) s t),[]):=by
  rw [jFQ];simp only [jd,jfT,jfU,e5]
 have c2:G 288 [.elt (joS o) 0,.elt [sv t.name,.sl 2 (t.args.map jw)] 0,.elt [sv s.name,.sl 2 (s.args.map jw)] 0]=some (vb (Z2 o (nodes s+nodes t) t s),[]):=by
  rw [jFS];simp only [jd,jfT,jfU,e6]
 have e7:=jkd (f:=286) (g:=288) rfl rfl (dq s t) _ _ c1 c2;rw [jFO];simp only [jd,e4,e7,jbw]
def jaJ (t:T):T:=t.args.getD 0 (.mk [] [])
def jcp (t:T):T:=t.args.getD 1 (.mk [] [])
def jcZ (t:T):Bool:=decide (t.args.length=2) && (jG t && (yH (jaJ t) && yH (jcp t)))
theorem K8 {t:T} (hl:t.args.length=2):jg 2 (jQ t.args) (vi 0)=some (.elt (jw (jaJ t)) 0)/\jg 2 (jQ t.args) (vi 1)=some (.elt (jw (jcp t)) 0)/\jaJ t∈t.args/\jcp t∈t.args:=by
 have e0:jaJ t=t.args[0]:=by unfold jaJ;simp [zO,hl]
 have e1:jcp t=t.args[1]:=by unfold jcp;simp [zO,hl]
 rw [e0,e1];exact ⟨ja (i:=0) (by omega),ja (i:=1) (by omega),jo _,jo _⟩
theorem jeJ (t:T) (hw:JO t) (hs:tsz t<=1048576) (he:t.name = [61]):G 137 [tm t]=some (vb (jcZ t),[]):=by
 obtain ⟨w1,w2,w3⟩:=(kJ t).1 hw;have w3:=(kD _).1 w3;have het:(t.name = [61])=True:=eq_true he;unfold jcZ;rw [jEm];by_cases hl:t.args.length=2;rotate_left
 .have hl':¬((t.args.length:Nat):Int)=2:=by omega
  simp only [jd,het,hl',hl,jH]
 have hl':((t.args.length:Nat):Int)=2:=by omega
 rw [jW hl,jJ];obtain ⟨i0,i1,ma,mb⟩:=K8 hl;have p1:=jma t hw hs;have p2:=jeK _ (w3 _ ma);have p3:=jeK _ (w3 _ mb);cases h1:jG t<;>rw [h1] at p1
 .simp only [jd,het,hl',p1,jH,yb]
 .cases h2:yH (jaJ t)<;>rw [h2] at p2
  .simp only [jd,het,hl',p1,i0,jf,p2,jH,yb]
  .simp only [jd,het,hl',p1,i0,i1,jf,p2,p3,jJ]
theorem qv (t:T):G 193 [tm t]=some (vb (decide (t.name = [61])),[]):=by
 rw [jLi];simp only [jd]
theorem jca (t:T) (hw:JO t) (hs:tsz t<=1048576) (he:t.name = [61]):G 228 [tm t]=some (vb (jcZ t),[]):=by
 obtain ⟨w1,w2,w3⟩:=(kJ t).1 hw;have w3:=(kD _).1 w3;have q0:=qv t;rw [jW he] at q0;unfold jcZ;rw [jFN];by_cases hl:t.args.length=2;rotate_left
 .have hl':¬((t.args.length:Nat):Int)=2:=by omega
  simp only [jd,q0,hl',hl,jH]
 have hl':((t.args.length:Nat):Int)=2:=by omega
 rw [jW hl,jJ];obtain ⟨i0,i1,ma,mb⟩:=K8 hl;have p1:=jbF t hw hs;have p2:=jc3 _ (w3 _ ma);have p3:=jc3 _ (w3 _ mb);cases h1:jG t<;>rw [h1] at p1
 .simp only [jd,q0,hl',p1,jH,yb]
 .cases h2:yH (jaJ t)<;>rw [h2] at p2
  .simp only [jd,q0,hl',p1,i0,jf,p2,jH,yb]
  .simp only [jd,q0,hl',p1,i0,i1,jf,p2,p3,jJ]
def jOO (o:Ord') (t:T):Bool:=decide (t.name = [61]) && (jcZ t && (KX o.syms (jaJ t) && KX o.syms (jcp t)))
theorem jE4:∀t:T,tsz t<=1048576->JO t:=by
 refine T.ind λt ih h=> ?_;have h':=h;rw [kQ] at h';exact (kJ t).2 ⟨by omega,by omega,(kD _).2 λu hu=>ih u hu (by have:=yC hu;omega)⟩
theorem jrk {n:Nat} (h:n<=4194304):jK n 40=true:=by
 unfold jK;exact jW ⟨by omega,by omega⟩
theorem jdh (t:T):tsz t<=1048576->G 221 [tm t]=some (tm t,[]):=by
 refine T.ind (p:=λt=>tsz t<=1048576->G 221 [tm t]=some (tm t,[])) ?_ t;intro t ih h;rw [kQ] at h;have key:=(upto (P:=λi=>jnG (vi i) (sv t.name) (jQ t.args) (sv []) (sv t.name) [] ((t.args.take i).map jw)=some (tm t,[])) (n:=t.args.length) ?_ ?_ 0 (jD _))
 .rw [jLG];simp only [jP,Jm,ye] at key;simp only [jd,key]
 .rw [jyY,jgk];simp only [jd]
 .intro i hi ih';have hlt:(i:Int) < ((t.args.length:Nat):Int):=by omega
  have h5:=jm hi (by show t.args.length<=9223372036854775807;omega)
  have e1:=ih t.args[i] (jo _) (by have:=yC (jo hi);omega)
  have hf:jK (i+1) 40=true:=jrk (by omega);have hl:((t.args.take i).map jw).length=i:=by rw [jM,qe];omega
  have ha:jU ((t.args.take i).map jw) [[sv t.args[i].name,jQ t.args[i].args]]=(t.args.take (i+1)).map jw:=by
   rw [show [sv t.args[i].name,jQ t.args[i].args]=jw t.args[i] from (zn _).symm,jcf,kh hi,zV];rfl
  rw [jyY];simp only [jd,hlt,ja hi,jf,e1,hl,hf,ha,h5,ih',qe,jgl (ZQ hi)]
theorem jB1 (o:Ord') (s t:T):yl o s t=0↔rk o s=rk o t/\s.args.length=t.args.length:=by
 unfold yl jcq;constructor
 .intro h;split at h
  .rename_i h1;refine ⟨h1,?_⟩;split at h
   .omega
   .split at h<;>omega
  .split at h
   .omega
   .split at h<;>omega
 .rintro ⟨h1,h2⟩;rw [jp h1,jq (by omega),jq (by omega)]
theorem jB0 (o:Ord') (s:T):yl o s s=0:=(jB1 o s s).2 ⟨rfl,rfl⟩
theorem juE:∀l:List T,fd l l=none
 | []=>rfl
 | x::l=>by rw [fd,jp (Ji.2 rfl),juE l]
def Lp (o:Ord') (s t:T):Prop:=jvZ o (nodes s+nodes t) s t=true
theorem jdL {s a:T} (h:a∈s.args):nodes a < nodes s:=by
 have:=qw h;rw [jS s];omega
def Kp (o:Ord') (s t:T):Prop:=Z2 o (nodes s+nodes t) s t=true
theorem jeI (o:Ord'):∀(n m:Nat) (s t:T),nodes s+nodes t<=n->nodes s+nodes t<=m->Z2 o n s t=Z2 o m s t
 | 0,_,s,t,h,_=>by have:=qH s;omega
 | _+1,0,s,t,_,h=>by have:=qH s;omega
 | n+1,m+1,s,t,h1,h2=>by
  rw [Z2,Z2];cases hf:fd s.args t.args with
  | none=>rfl
  | some p=>
   obtain ⟨a,b⟩:=p;have hm:=joo hf;have h3:=jdL hm.1;have h4:=jdL hm.2;simp only [jeI o n m a b (by omega) (by omega)]
theorem jxf (o:Ord') (s t:T):Kp o s t↔bal s t=true/\(wt o t < wt o s\/(wt o s=wt o t/\(ju s.name=false/\ju t.name=false)/\(0 < yl o s t\/(yl o s t=0/\ ∃a b,fd s.args t.args=some (a,b)/\Kp o a b)))):=by
 unfold Kp;obtain ⟨n,hn⟩:∃n,nodes s+nodes t=n+1:=⟨nodes s+nodes t - 1,by have:=qH s;omega⟩;rw [hn,Z2];have e3:(match fd s.args t.args with|some (a,b)=>Z2 o n a b|none=>false)=true↔ ∃a b,fd s.args t.args=some (a,b)/\Z2 o (nodes a+nodes b) a b=true:=by
  cases hf:fd s.args t.args with
  | none=>simp
  | some p=>
   obtain ⟨a,b⟩:=p;have hm:=joo hf;have h3:=jdL hm.1;have h4:=jdL hm.2;dsimp only;rw [jeI o n (nodes a+nodes b) a b (by omega) (kH _)];constructor
   .intro h;exact ⟨a,b,rfl,h⟩
   .rintro ⟨a',b',h,h'⟩;cases h;exact h'
 cases hb:bal s t
 .simp
 .rw [jp rfl];simp only [true_and];by_cases hw:wt o s=wt o t
  .rw [jp hw];have hw':¬wt o t < wt o s:=by omega
   cases hv:ju s.name
   .cases hv2:ju t.name
    .simp only [Bool.or_self,K5,KU,true_and,and_self];by_cases hr:yl o s t=0
     .rw [jp hr];refine Iff.trans e3 ?_;constructor
      .intro h;exact Or.inr ⟨hw,Or.inr ⟨hr,h⟩⟩
      .rintro (h|⟨_,h|⟨_,h⟩⟩)
       .exact (hw' h).elim
       .omega
       .exact h
     .rw [jq hr,jvu];constructor
      .intro h;exact Or.inr ⟨hw,Or.inl h⟩
      .rintro (h|⟨_,h|⟨h,_⟩⟩)
       .exact (hw' h).elim
       .exact h
       .exact (hr h).elim
    .simp [hw']
   .simp [hw']
  .rw [jq hw,jvu];constructor
   .intro h;exact Or.inl h
   .rintro (h|⟨h,_⟩)
    .exact h
    .exact (hw h).elim
theorem jAU {n:List UInt8} (hn:ju n=true):∀t:T,yH t=true->(n∈kT t↔1<=cnt n t):=by
 refine T.ind λt ih hk=> ?_;have hL:∀ts:List T,(∀u∈ts,(n∈kT u↔1<=cnt n u))->(n∈yv ts↔1<=Yj n ts):=by
  intro ts;induction ts with
  | nil=>intro _;simp [yv,Yj]
  | cons u us ih2=>
   intro h;have h1:=h u (by simp);have h2:=ih2 λv hv=>h v (by simp [hv]);simp only [yv,Yj,kM,h1,h2];omega
 have hargs:=hL t.args λu hu=>ih u hu (zM hk u hu);rw [Qg,jgL];rw [yW] at hk;cases hv:ju t.name
 .have hne:t.name≠n:=λe=>by rw [e,hn] at hv;cases hv
  rw [jq kx,jq hne,hargs];omega
 .rw [hv,jp rfl] at hk;have ha:=jlh.1 hk;rw [jp rfl,kG,ha];by_cases e:t.name=n
  .rw [jp e];simp [Yj,e]
  .rw [jq e];simp [Yj];exact λh=>e h.symm
theorem jAV {n:List UInt8} :∀t:T,n∈kT t->ju n=true:=by
 refine T.ind λt ih h=> ?_;rw [Qg] at h;cases hv:ju t.name
 .rw [hv,jq kx] at h;have:∀ts:List T,(∀u∈ts,n∈kT u->ju n=true)->n∈yv ts->ju n=true:=by
   intro ts;induction ts with
   | nil=>intro _ h;simp [yv] at h
   | cons u us ih2=>
    intro h h2;simp only [yv,kM] at h2;rcases h2 with h2|h2
    .exact h u (by simp) h2
    .exact ih2 (λv hv=>h v (by simp [hv])) h2
  exact this t.args ih h
 .rw [hv,jp rfl,kG] at h;rw [h];exact hv
theorem jDx (o:Ord') (x:T):¬Kp o x x:=by
 intro h;obtain ⟨_,h|⟨_,_,h|⟨_,_,_,h,_⟩⟩⟩:=(jxf o x x).1 h
 .omega
 .rw [jB0] at h;omega
 .rw [juE] at h;cases h
theorem jvC (o:Ord') (s t:T):jbw o s t=jcU (dq s t) (@decide (Kp o s t) (Classical.propDecidable _)) (@decide (Kp o t s) (Classical.propDecidable _)):=by
 have e1:Z2 o (nodes s+nodes t) s t = @decide (Kp o s t) (Classical.propDecidable _):=by
  unfold Kp;cases Z2 o (nodes s+nodes t) s t<;>simp
 have e2:Z2 o (nodes s+nodes t) t s = @decide (Kp o t s) (Classical.propDecidable _):=by
  rw [jeI o (nodes s+nodes t) (nodes t+nodes s) t s (by omega) (kH _)];unfold Kp;cases Z2 o (nodes t+nodes s) t s<;>simp
 unfold jbw;rw [e1,e2]
def rbI (c:Int):Int:=if c=2 then 3 else if c=3 then 2 else c
open Classical in
open Classical in
theorem jxD {R:T->T->Prop} {s t:T} (hir:∀x,¬R x x):jcU (dq s t) (decide (R s t)) (decide (R t s))=2↔R s t:=by
 unfold jcU;cases hd:dq s t
 .by_cases h1:R s t
  .simp [h1]
  .by_cases h2:R t s<;>simp [h1,h2]
 .have:=Ji.1 hd;subst this;simp [hir s]
theorem jBE (o:Ord') (s t:T):jbw o s t=2↔Kp o s t:=by
 rw [jvC];exact jxD (R:=Kp o) (jDx o)
def look:List (List UInt8 × T)->List UInt8->Option T
 | [],_=>none
 | p::u,n=>if p.1=n then some p.2 else look u n
def jct (u:List (List UInt8 × T)) (n:List UInt8):T:=(look u n).getD (.mk n [])
mutual
def sub (u:List (List UInt8 × T)):T->T
 | .mk n us=>if ju n then jct u n else .mk n (jwQ u us)
def jwQ (u:List (List UInt8 × T)):List T->List T
 | []=>[]
 | t::ts=>sub u t::jwQ u ts
end
theorem jr9 (u:List (List UInt8 × T)):∀ts:List T,jwQ u ts=ts.map (sub u)
 | []=>rfl
 | t::ts=>by rw [jwQ,jr9 u ts,kV]
theorem KP {u:List (List UInt8 × T)} {t:T} (h:ju t.name=true):sub u t=jct u t.name:=by
 obtain ⟨n,us⟩:=t;have h:ju n=true:=h;show (if ju n then jct u n else T.mk n (jwQ u us))=_;rw [jp h];rfl
theorem JN {u:List (List UInt8 × T)} {t:T} (h:ju t.name=false):sub u t = .mk t.name (t.args.map (sub u)):=by
 obtain ⟨n,us⟩:=t;have h:ju n=false:=h;show (if ju n then jct u n else T.mk n (jwQ u us))=_;rw [h,jq kx,jr9];rfl
theorem jkP {u:List (List UInt8 × T)} {t:T} (h:ju t.name=false):(sub u t).name=t.name:=by rw [JN h];rfl
theorem jf7 {u:List (List UInt8 × T)} {t:T} (h:ju t.name=false):(sub u t).args=t.args.map (sub u):=by rw [JN h];rfl
theorem JC {t:T} (h:yH t=true) (hv:ju t.name=true):t.args = []:=by
 rw [yW,hv,jp rfl] at h;exact jlh.1 h
def jM9 (f:List UInt8->Int):List (List UInt8)->Int
 | []=>0
 | x::l=>f x+jM9 f l
theorem jAJ {o:Ord'} (hv:y9 o=true) {n:List UInt8} (h:o.syms.contains n=true):o.var<=jin o n:=by
 obtain ⟨k,hk,hlt⟩:=jfw h;obtain ⟨h1,h2,h3,h4⟩:=QO hv;have h5:=h4 k hlt;have hlt':k < o.ws.length:=by omega
 have e:jin o n=o.ws.getD k 0:=by simp [jin,hk]
 rw [e];exact h5.1
theorem jFa {o:Ord'} (hv:y9 o=true) {t:T} (hc:KX o.syms t=true):o.var<=wt o t:=by
 have hc':=hc;rw [J7,jy] at hc';have hb:=(ja6 hv hc'.2).1;rw [jsn];cases hn:ju t.name with
 | true=>simp only [Jk];omega
 | false=>
  have hcn:=hc'.1;rw [hn,zI] at hcn;have:=jAJ hv hcn;simp only [K5,KU];omega
abbrev bc (p:List UInt8 × T):List A:=[sv p.1,sv p.2.name,.sl 2 (p.2.args.map jw)]
abbrev Zz (u:List (List UInt8 × T)):A:= .sl 3 (u.map bc)
abbrev sb (u:List (List UInt8 × T)):A:= .agg [Zz u]
theorem Y0 (p:List UInt8 × T):ky 2 (.elt (bc p) 1)=some (tm p.2):=rfl
theorem yu (p:List UInt8 × T):kq (.elt (bc p) 0)=some (sv p.1):=rfl
theorem qo (p:List UInt8 × T) (n:Nat):yI (.elt (bc p) 0) n=some (.elt (bc p) n):=by rw [qp,yc]
def Sz (z:Nat) (u:List (List UInt8 × T)):Prop:=u.length<=z/\ ∀p∈u,p.1.length<=z/\tsz p.2<=z
theorem jmc (u:List (List UInt8 × T)) (hl:u.length<=1048576) (n:List UInt8):(look u n=none/\G 222 [sb u,sv n]=some (vi (-1),[]))\/ ∃k,∃h:k < u.length,look u n=some u[k].2/\G 222 [sb u,sv n]=some (vi (k:Nat),[]):=by
 have key:=upto (P:=λi=>(look (u.drop i) n=none/\ji0 (sv n) (vi i) (Zz u)=some (vi (-1),[]))\/ ∃k,∃h:k < u.length,look (u.drop i) n=some u[k].2/\ji0 (sv n) (vi i) (Zz u)=some (vi (k:Nat),[])) (n:=u.length) ?_ ?_ 0 (jD _)
 .rw [jLH];exact key
 .left;rw [j6,jyZ];exact ⟨rfl,by simp only [jd]⟩
 .intro i hi ih;have hlt:(i:Int) < ((u.length:Nat):Int):=by omega
  have h5:=jm hi (by show u.length<=9223372036854775807;omega)
  rw [jyZ,jh hi,look];by_cases he:u[i].1=n
  .right;rw [jp he];exact ⟨i,hi,rfl,by simp only [jd,hlt,ja hi,qo,yu,he]⟩
  .rw [jq he];rcases ih with ⟨h1,h2⟩|⟨k,hk,h1,h2⟩
   .left;exact ⟨h1,by simp only [jd,hlt,ja hi,qo,yu,he,h5,h2]⟩
   .right;exact ⟨k,hk,h1,by simp only [jd,hlt,ja hi,qo,yu,he,h5,h2]⟩
theorem Ze (u:List (List UInt8 × T)) (hu:Sz 1048576 u) (t:T):tsz t<=1048576->G 178 [sb u,tm t]=some (tm (sub u t),[]):=by
 refine T.ind (p:=λt=>tsz t<=1048576->G 178 [sb u,tm t]=some (tm (sub u t),[])) ?_ t;intro t ih hs;have h:=hs;rw [kQ] at h;have e1:=zy t.name (by show t.name.length<=9223372036854775807;omega);rw [jK6];cases hv:ju t.name<;>rw [hv] at e1
 .have key:=(upto (P:=λi=>jno (vi i) (Zz u) (sv t.name) (jQ t.args) (sv []) (sv t.name) [] (((t.args.map (sub u)).take i).map jw)=some (tm (sub u t),[])) (n:=t.args.length) ?_ ?_ 0 (jD _))
  .simp only [jP,Jm,ye] at key;simp only [jd,e1,key]
  .rw [jyB,qf (by rw [jM];omega),JN hv]
   simp only [jd];rfl
  .intro i hi ih';have hlt:(i:Int) < ((t.args.length:Nat):Int):=by omega
   have h5:=jm hi (by show t.args.length<=9223372036854775807;omega)
   have e2:=ih t.args[i] (jo _) (by have:=yC (jo hi);omega)
   have hf:jK (i+1) 40=true:=jrk (by omega);have hi2:i < (t.args.map (sub u)).length:=by rw [jM];exact hi
   have hl:(((t.args.map (sub u)).take i).map jw).length=i:=by rw [jM,qe,jM];omega
   have ha:jU (((t.args.map (sub u)).take i).map jw) [[sv (sub u t.args[i]).name,jQ (sub u t.args[i]).args]]=((t.args.map (sub u)).take (i+1)).map jw:=by
    rw [show [sv (sub u t.args[i]).name,jQ (sub u t.args[i]).args]=jw (sub u t.args[i]) from (zn _).symm,jcf,kh hi2,zV,jex];rfl
   generalize ((t.args.map (sub u)).take i).map jw=R at *;rw [jyB];simp only [jd,hlt,ja hi,jf,e2,hl,hf,ha,h5,ih']
 .rw [KP hv,jct];rcases jmc u hu.1 t.name with ⟨h1,h2⟩|⟨k,hk,h1,h2⟩
  .rw [h1];simp only [jd,e1,h2];rfl
  .rw [h1];have hm:=hu.2 _ (jo hk);have e3:=jdh u[k].2 hm.2;have hk0:(0:Int)<=((k:Nat):Int):=by omega
   simp only [jd,e1,h2,hk0,ja hk,qo,Y0,e3,jk3]
end Go.Proofs.YtoaifmomhaneiaaGreatDoor
