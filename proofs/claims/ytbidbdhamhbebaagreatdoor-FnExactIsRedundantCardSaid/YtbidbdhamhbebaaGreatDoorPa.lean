/- Pa -/
import Derived.Test.YtbidbdhamhbebaaGreatDoorKt
import Derived.Test.YtbidbdhamhbebaaGreatDoorPq
import Derived.Test.YtbidbdhamhbebaaGreatDoorEd
import Derived.ChangeSame
namespace Go.Proofs.YtbidbdhamhbebaaGreatDoor
open Go Go.RowKit Go.Proofs.YtbidbdhamhbebaaGreatDoor.Abs
set_option linter.unusedSimpArgs false
set_option linter.unusedVariables false
abbrev ci (n:Int):List A:=[vi n]
abbrev cs (s:List UInt8):List A:=[sv s]
abbrev ints (l:List Int):A:= .sl 1 (l.map ci)
abbrev strs (l:List (List UInt8)):A:= .sl 1 (l.map cs)
section
theorem jep {α:Type} (x y:α):brn true x y=x:=rfl
theorem YB {α:Type} (x y:α):brn false x y=y:=rfl
theorem jBi {α:Type} (b:Bool) (x y:α):brn b x y=if b=true then x else y:=rfl
theorem juA:(-1:Int) < 0:=by decide
theorem YW (b:Bool):JB (vb b)=some b:=rfl
theorem jjo (b:Bool) (x y:A):J0 (vb b) x y=some (if b=true then x else y):=rfl
theorem jz1 (b w:Bool) (x:Option A):pG (vb b) w x=if b=w then x else some (.val undef):=rfl
theorem jqH (b w:Bool):Kg (vb b) w=some (decide (b=w)):=rfl
theorem jz0 (w:Bool) (x:Option A):pG (.val undef) w x=some (.val undef):=rfl
theorem jqG (w:Bool):Kg (.val undef) w=some false:=rfl
theorem jz2 (k:Nat) (xs:List (List A)):zg (.sl k xs)=some (vi xs.length):=rfl
theorem Yu (xs:List (List A)):qh xs=vi xs.length:=rfl
theorem jjx (xs:List (List A)):jB xs=xs.length:=rfl
theorem jce (l:List UInt8):jeT (sv l)=some (vi l.length):=rfl
theorem jpq (a:A):fin false (a,[])=some a:=rfl
theorem jE7 (b c:Bool):fin c (vb b,[])=some (vb b):=by cases c<;>rfl
theorem jE8 (c:Bool) (n:Int):fin c (vi n,[])=some (vi n):=by cases c<;>rfl
theorem jCw (b:Bool):qX .not (vb b)=some (vb (!b)):=rfl
theorem jeS (b:Bool) (x y:Int):jz .lss b (vi x) (vi y)=some (vb (decide (x < y))):=rfl
theorem jzW (b:Bool) (x y:Int):jz .leq b (vi x) (vi y)=some (vb (decide (x<=y))):=rfl
theorem jcd (b:Bool) (x y:Int):jz .gtr b (vi x) (vi y)=some (vb (decide (y < x))):=rfl
theorem jzV (b:Bool) (x y:Int):jz .geq b (vi x) (vi y)=some (vb (decide (y<=x))):=rfl
theorem jqA (b:Bool) (x y:Int):jz .eql b (vi x) (vi y)=some (vb (decide (x=y))):=rfl
theorem jzY (b:Bool) (x y:Int):jz .neq b (vi x) (vi y)=some (vb (!decide (x=y))):=rfl
theorem jv4 (b:Bool) (x y:Int):jz .lss b (vy x) (vy y)=some (vb (decide (x < y))):=rfl
theorem jv3 (b:Bool) (x y:Int):jz .leq b (vy x) (vy y)=some (vb (decide (x<=y))):=rfl
theorem jv2 (b:Bool) (x y:Int):jz .gtr b (vy x) (vy y)=some (vb (decide (y < x))):=rfl
theorem jv1 (b:Bool) (x y:Int):jz .geq b (vy x) (vy y)=some (vb (decide (y<=x))):=rfl
theorem jv0 (b:Bool) (x y:Int):jz .eql b (vy x) (vy y)=some (vb (decide (x=y))):=rfl
theorem jv5 (b:Bool) (x y:Int):jz .neq b (vy x) (vy y)=some (vb (!decide (x=y))):=rfl
theorem jv6 (x y:Bool):jz .eql true (vb x) (vb y)=some (vb (decide (x=y))):=rfl
theorem jv7 (x y:Bool):jz .neq true (vb x) (vb y)=some (vb (!decide (x=y))):=rfl
theorem KZ (b:Bool) (x y:Int):jz .add b (vi x) (vi y)=ck (x+y):=by cases b<;>rfl
theorem jqB (b:Bool) (x y:Int):jz .sub b (vi x) (vi y)=ck (x - y):=by cases b<;>rfl
theorem jzX (b:Bool) (x y:Int):jz .mul b (vi x) (vi y)=ck (x * y):=by cases b<;>rfl
theorem j8 {n:Int} (h1: -9223372036854775808<=n) (h2:n<=9223372036854775807):ck n=some (vi n):=jl ⟨h1,h2⟩
theorem jf0 (b:Bool) (x y:List UInt8):jz .add b (sv x) (sv y)=if x.length+y.length<=9223372036854775807 then some (sv (x++y)) else none:=by cases b<;>rfl
theorem jf1 (b:Bool) (x y:List UInt8):jz .eql b (sv x) (sv y)=some (vb (decide (x=y))):=rfl
theorem jwb (b:Bool) (x y:List UInt8):jz .neq b (sv x) (sv y)=some (vb (!decide (x=y))):=rfl
theorem jwa (b:Bool) (x y:List UInt8):jz .lss b (sv x) (sv y)=some (vb (yQ x y)):=rfl
theorem jz4 (a:A) (l:List A):ku (.elt (a::l) 0)=some a:=rfl
theorem qI (cs:List A) (off n:Nat):ye (.elt cs off) n=some (.elt cs (off+n)):=rfl
theorem js0 (off:Nat) (cs:List A):jjk off (.agg cs)=cs[off]? :=rfl
theorem jsX (n:Nat) (ds:List A):jdO n (.agg ds)=if ds.length=n/\ds.all j9=true then some ds else none:=rfl
theorem jvb (a:A) (l:List A):jc (a::l) 0=a:=rfl
theorem jxu (a b:A) (l:List A):jc (a::b::l) 1=b:=rfl
theorem jxv (a b c:A) (l:List A):jc (a::b::c::l) 2=c:=rfl
theorem jsf (a b c d:A) (l:List A):jc (a::b::c::d::l) 3=d:=rfl
theorem jsT (k:Nat) (xs:List (List A)):j9 (.sl k xs)=true:=rfl
theorem jCo (cs:List A) (o:Nat):j9 (.elt cs o)=true:=rfl
theorem jFB (f:FuncId) (l:List A):j9 (.fn f l)=true:=rfl
theorem jFE (n:Int):j9 (vi n)=true:=rfl
theorem jFD (b:Bool):j9 (vb b)=true:=rfl
theorem jFC (l:List UInt8):j9 (sv l)=true:=rfl
theorem jFH (n:Nat) (i:Int):Q4 n (vi i)=if 0<=i/\i < (n:Int) then some i.toNat else none:=rfl
theorem yj {n i:Nat} (h:i < n):Q4 n (vi i)=some i:=by
 rw [jFH,jl ⟨by omega,by omega⟩];simp
theorem jz6 (k:Nat) (xs:List (List A)):jeX k (.sl k xs)=some xs:=jl rfl
theorem jFL (a:A) (l:List A):QX (.tup (a::l)) 0=some a:=rfl
theorem jFM (a b:A) (l:List A):QX (.tup (a::b::l)) 1=some b:=rfl
theorem jFN (a b c:A) (l:List A):QX (.tup (a::b::c::l)) 2=some c:=rfl
theorem jCu (x y:Int):js1 (vi x) (vi y)=some (vi (if x < y then y else x)):=by
 unfold js1;simp
theorem jCv (x y:Int):jwc (vi x) (vi y)=some (vi (if y < x then y else x)):=by
 unfold jwc;simp
theorem jG3 (a:A) (l:List A) (i:Nat):hD (a,l) i=l[i]? :=rfl
theorem jKo (k:Nat) (a:A) (xs:List (List A)) (l:List A):hR k (a,.sl k xs::l) 0=some xs:=by simp [hR]
theorem jKp (k:Nat) (a b:A) (xs:List (List A)) (l:List A):hR k (a,b:: .sl k xs::l) 1=some xs:=by simp [hR]
theorem jKq (k:Nat) (a b c:A) (xs:List (List A)) (l:List A):hR k (a,b::c:: .sl k xs::l) 2=some xs:=by simp [hR]
theorem qt {f:FuncId} {caps args:List A} {c:Bool} (h:K.pureF f=true):DX.run K (MM K) (.callc (.fn f caps) args c)=(G f (args++caps)).bind (fin c):=by
 simp only [DX.run,h,Jm]
theorem jb {α:Type} {k:Nat} {f:α->List A} {xs:List α} {i:Nat} (h:i < xs.length):jh k (.sl k (xs.map f)) (vi i)=some (.elt (f xs[i]) 0):=by
 simp only [jh,Jm,jK,yj h,K5];simp [qE,h]
theorem jq {i n:Nat} (h:i < n) (hn:n<=9223372036854775807):jz .add false (vi i) (vi 1)=some (vi ((i+1:Nat):Int)):=by
 rw [KZ,j8 (by omega) (by omega)];rfl
theorem jfN {b:Int} {n:Nat} (h0:0<=b) (h1:b<=9223372036854775807) (hn:n<=9223372036854775807):ck (b - n)=some (vi (b - n)):=j8 (by omega) (by omega)
theorem jHj (d top:Nat) (z:Int):pB d top (some (vi z))=if 0<=z/\z<=(top:Int) then some z.toNat else none:=rfl
theorem Js {d top n:Nat} (h:n<=top):pB d top (some (vi n))=some n:=by
 rw [jHj,jl ⟨by omega,by omega⟩];simp
theorem yi {d top:Nat} (h:d<=top):pB d top none=some d:=jl h
theorem jnZ (xs:List (List A)):yU xs=xs.length:=rfl
theorem qZ (xs:List (List A)) (off:Nat):yq xs off=xs.length - off:=rfl
theorem juH (ys:List (List A)) (n:Nat):jwh ys n=vi (min ys.length n:Nat):=rfl
theorem jqT (ys:List (List A)) (n:Nat):jlz ys n=ys.take n:=rfl
theorem jeZ (xs:List (List A)) (off n:Nat):Ja xs off n=(xs.drop off).take n:=rfl
theorem jap (xs:List (List A)) (off:Nat) (ys:List (List A)):qj xs off ys=xs.take off++ys++xs.drop (off+ys.length):=rfl
theorem qW (a b:Nat):zf a b=a - b:=rfl
theorem jz5 (off n:Nat) (ys xs:List (List A)):jqE off n ys xs=decide (off+n+ys.length<=xs.length):=rfl
theorem upto {P:Nat->Prop} {n:Nat} (h0:P n) (hs:∀i,i < n->P (i+1)->P i):∀i,i<=n->P i:=by
 intro i hi;obtain ⟨k,hk⟩:∃k,n=i+k:=⟨n - i,by omega⟩;induction k generalizing i with
 | zero=>rw [show i=n by omega];exact h0
 | succ k ih=>exact hs i (by omega) (ih (i+1) (by omega) (by omega))
theorem ji {α:Type} {xs:List α} {i:Nat} (h:i < xs.length):xs.drop i=xs[i]::xs.drop (i+1):=jot h
theorem evs :
  ((-1:Int) < 0)/\
  (∀ {α:Type} (x y:α),brn true x y=x)/\
  (∀ {α:Type} (x y:α),brn false x y=y)/\
  (∀ {α:Type} (b:Bool) (x y:α),brn b x y=if b=true then x else y)/\
  (∀ {α β:Type} (a:α) (f:α->Option β),(some a).bind f=f a)/\
  (∀ {α β:Type} (f:α->Option β),none.bind f=none)/\
  (∀(b:Bool),JB (vb b)=some b)/\
  (∀(b:Bool) (x y:A),J0 (vb b) x y=some (if b=true then x else y))/\
  (∀(b w:Bool) (x:Option A),pG (vb b) w x=if b=w then x else some (A.val undef))/\
  (∀(b w:Bool),Kg (vb b) w=some (decide (b=w)))/\
  (∀(w:Bool) (x:Option A),pG (A.val undef) w x=some (A.val undef))/\
  (∀(w:Bool),Kg (A.val undef) w=some false)/\
  (∀(k:Nat) (xs:List (List A)),zg (A.sl k xs)=some (vi ↑xs.length))/\
  (∀(xs:List (List A)),qh xs=vi ↑xs.length)/\
  (∀(xs:List (List A)),jB xs=xs.length)/\
  (∀(l:List UInt8),jeT (sv l)=some (vi ↑l.length))/\
  (∀(a:A),fin false (a,[])=some a)/\
  (∀(b c:Bool),fin c (vb b,[])=some (vb b))/\
  (∀(c:Bool) (n:Int),fin c (vi n,[])=some (vi n))/\
  (∀(b:Bool),qX UnOp.not (vb b)=some (vb !b))/\
  (∀(b:Bool) (x y:Int),jz BinOp.lss b (vi x) (vi y)=some (vb (decide (x < y))))/\
  (∀(b:Bool) (x y:Int),jz BinOp.leq b (vi x) (vi y)=some (vb (decide (x<=y))))/\
  (∀(b:Bool) (x y:Int),jz BinOp.gtr b (vi x) (vi y)=some (vb (decide (y < x))))/\
  (∀(b:Bool) (x y:Int),jz BinOp.geq b (vi x) (vi y)=some (vb (decide (y<=x))))/\
  (∀(b:Bool) (x y:Int),jz BinOp.eql b (vi x) (vi y)=some (vb (decide (x=y))))/\
  (∀(b:Bool) (x y:Int),jz BinOp.neq b (vi x) (vi y)=some (vb !decide (x=y)))/\
  (∀(b:Bool) (x y:Int),jz BinOp.lss b (vy x) (vy y)=some (vb (decide (x < y))))/\
  (∀(b:Bool) (x y:Int),jz BinOp.leq b (vy x) (vy y)=some (vb (decide (x<=y))))/\
  (∀(b:Bool) (x y:Int),jz BinOp.gtr b (vy x) (vy y)=some (vb (decide (y < x))))/\
  (∀(b:Bool) (x y:Int),jz BinOp.geq b (vy x) (vy y)=some (vb (decide (y<=x))))/\
  (∀(b:Bool) (x y:Int),jz BinOp.eql b (vy x) (vy y)=some (vb (decide (x=y))))/\
  (∀(b:Bool) (x y:Int),jz BinOp.neq b (vy x) (vy y)=some (vb !decide (x=y)))/\
  (∀(x y:Bool),jz BinOp.eql true (vb x) (vb y)=some (vb (decide (x=y))))/\
  (∀(x y:Bool),jz BinOp.neq true (vb x) (vb y)=some (vb !decide (x=y)))/\
  (∀(b:Bool) (x y:Int),jz BinOp.add b (vi x) (vi y)=ck (x+y))/\
  (∀(b:Bool) (x y:Int),jz BinOp.sub b (vi x) (vi y)=ck (x - y))/\
  (∀(b:Bool) (x y:Int),jz BinOp.mul b (vi x) (vi y)=ck (x * y))/\
  (∀(b:Bool) (x y:List UInt8),jz BinOp.eql b (sv x) (sv y)=some (vb (decide (x=y))))/\
  (∀(b:Bool) (x y:List UInt8),jz BinOp.neq b (sv x) (sv y)=some (vb !decide (x=y)))/\
  (∀(b:Bool) (x y:List UInt8),jz BinOp.lss b (sv x) (sv y)=some (vb (yQ x y)))/\
  (∀(a:A) (l:List A),ku (A.elt (a::l) 0)=some a)/\
  (∀(cs:List A) (off n:Nat),ye (A.elt cs off) n=some (A.elt cs (off+n)))/\
  (∀(off:Nat) (cs:List A),jjk off (A.agg cs)=cs[off]?)/\
  (∀(n:Nat) (ds:List A),jdO n (A.agg ds)=if ds.length=n/\ds.all j9=true then some ds else none)/\
  (∀(a:A) (l:List A),jc (a::l) 0=a)/\
  (∀(a b:A) (l:List A),jc (a::b::l) 1=b)/\
  (∀(a b c:A) (l:List A),jc (a::b::c::l) 2=c)/\
  (∀(a b c d:A) (l:List A),jc (a::b::c::d::l) 3=d)/\
  (∀(k:Nat) (xs:List (List A)),j9 (A.sl k xs)=true)/\
  (∀(cs:List A) (o:Nat),j9 (A.elt cs o)=true)/\
  (∀(f:FuncId) (l:List A),j9 (A.fn f l)=true)/\
  (∀(n:Int),j9 (vi n)=true)/\
  (∀(b:Bool),j9 (vb b)=true)/\
  (∀(l:List UInt8),j9 (sv l)=true)/\
  (∀(k:Nat) (xs:List (List A)),jeX k (A.sl k xs)=some xs)/\
  (∀(a:A) (l:List A),QX (A.tup (a::l)) 0=some a)/\
  (∀(a b:A) (l:List A),QX (A.tup (a::b::l)) 1=some b)/\
  (∀(a b c:A) (l:List A),QX (A.tup (a::b::c::l)) 2=some c)/\
  (∀(x y:Int),js1 (vi x) (vi y)=some (vi (if x < y then y else x)))/\
  (∀(x y:Int),jwc (vi x) (vi y)=some (vi (if y < x then y else x)))/\
  (∀(a:A) (l:List A) (i:Nat),hD (a,l) i=l[i]?)/\
  (∀(k:Nat) (a:A) (xs:List (List A)) (l:List A),hR k (a,A.sl k xs::l) 0=some xs)/\
  (∀(k:Nat) (a b:A) (xs:List (List A)) (l:List A),hR k (a,b::A.sl k xs::l) 1=some xs)/\
  (∀(k:Nat) (a b c:A) (xs:List (List A)) (l:List A),hR k (a,b::c::A.sl k xs::l) 2=some xs)/\
  (∀ {α:Type} {a:α} {l:List α} {f:α->Bool},(a::l).all f=(f a && l.all f))/\
  (∀ {α:Type} {f:α->Bool},([]:List α).all f=true)/\
  (∀ {α:Type} {a:α} {l:List α},(a::l).length=l.length+1)/\
  (∀ {α:Type},([]:List α).length=0)/\
  (∀ {α β:Type} {l:List α} (f:α->β),(List.map f l).length=l.length)/\
  (∀(n:Nat),0+n=n)/\
  (∀(b:Bool),(b && b)=b)/\
  (∀(b:Bool),(b && true)=b)/\
  (∀(p:Prop),(p/\p)=p)/\
  (∀ {α:Type} {_x:Decidable True} (t e:α),(if True then t else e)=t)/\
  (∀ {α:Type} {_x:Decidable False} (t e:α),(if False then t else e)=e)/\
  ((true=false)=False)/\
  ((false=true)=False)/\
  (∀(_h:Decidable True),decide True=true)/\
  (∀(_h:Decidable False),decide False=false)/\
  ((!true)=false)/\
  ((!false)=true)/\
  (∀(b:Bool),((!b)=true)=(b=false))/\
  (∀ {p:Prop} [Decidable p],(decide p=true)=p)/\
  (∀ {p:Prop} {x:Decidable p},decide p=false↔ ¬p)/\
  (∀(a:Int),¬a < a)/\
  ((¬True)=False)/\
  ((¬False)=True)/\
  (∀ {α:Type} (a b:α),(if True then a else b)=a)/\
  (∀ {α:Type} (a b:α),(if False then a else b)=b):=
 ⟨@juA,@jep,@YB,@jBi,@yo.{0,0},@Option.bind_none.{0,0},@YW,@jjo,@jz1,@jqH,@jz0,@jqG,@jz2,@Yu,@jjx,@jce,@jpq,@jE7,@jE8,@jCw,@jeS,@jzW,@jcd,@jzV,@jqA,@jzY,@jv4,@jv3,@jv2,@jv1,@jv0,@jv5,@jv6,@jv7,@KZ,@jqB,@jzX,@jf1,@jwb,@jwa,@jz4,@qI,@js0,@jsX,@jvb,@jxu,@jxv,@jsf,@jsT,@jCo,@jFB,@jFE,@jFD,@jFC,@jz6,@jFL,@jFM,@jFN,@jCu,@jCv,@jG3,@jKo,@jKp,@jKq,@yC.{0},@jdn.{0},@zM.{0},@qO.{0},@jK.{0,0},@Jg,@jhb,@jaw,@and_self,@Jm.{1},@K6.{1},@Bool.true_eq_false,@Zg,@decide_true,@decide_false,@jdk,@jkk,@JO,@kG,@Yc,@Int.lt_irrefl,@not_true_eq_false,@not_false_eq_true,@ite_true.{1},@ite_false.{1}⟩
end
theorem jGK:(∀ {α:Type} {h:Decidable True} (a b:α),@ite α True h a b=a)/\(∀ {α:Type} {h:Decidable False} (a b:α),@ite α False h a b=b)/\(1+1=2/\1+2=3/\1+3=4/\1+4=5/\2+1=3/\2+2=4/\2+3=5/\2+4=6/\3+1=4/\3+2=5/\3+3=6/\3+4=7/\4+1=5/\4+2=6/\4+3=7/\4+4=8/\5+1=6/\5+2=7/\5+3=8/\5+4=9/\6+1=7/\6+2=8/\6+3=9/\6+4=10/\7+1=8/\7+2=9/\7+3=10/\7+4=11/\8+1=9/\8+2=10/\8+3=11/\8+4=12/\9+1=10/\9+2=11/\9+3=12/\9+4=13/\10+1=11/\10+2=12/\10+3=13/\10+4=14/\11+1=12/\11+2=13/\11+3=14/\11+4=15/\12+1=13/\12+2=14/\12+3=15/\12+4=16):=by refine ⟨?_,?_,by decide⟩<;>intros<;>simp
theorem je:type_of% (And.intro evs (And.intro cev jGK)):=And.intro evs (And.intro cev jGK)
open Go Go.RowKit Go.ChangeShapes Go.Deep Go.Proofs.YtbidbdhamhbebaaGreatDoor.Abs
section
variable {P:Program} {t:Nat} {H:Type} {enc:TypeId × Value->H} {w:World} {base:Nat} {spare:Nat->Bool} {held:Bool} {fuel:Nat} {cs:List Value} {x:DataW H × List MemPlace}
theorem jtm {α:Type} {g0:α->List A} {p0:α->Prop} {f0:Field} {k0:Nat} (ht:P.underlying t=some (.struct #[f0]))
  (o0:f0.offset=0) (c0:P.cellsOf f0.type=k0) (c:P.cellsOf t=k0)
  (h0:∀n cs x,n < fuel->DataW.trod enc P w base spare held n f0.type cs=some x-> ∃a,p0 a/\jG w (λ_=>False) (g0 a) cs/\jA cs)
  (h:DataW.trod enc P w base spare held fuel t cs=some x):∃a,p0 a/\jG w (λ_=>False) (g0 a) cs/\jA cs:=by
 obtain ⟨xs,n,hfn,rfl,hl,hlen,hf⟩:=DataW.trod_struct ht h;have e0:=hf 0 f0 rfl;rw [o0,c0] at e0;have hlen:xs.length=1:=hlen;have hx0:xs[0]? = some xs[0]:=zk (by omega);rw [hx0] at e0;obtain ⟨a,q1,q2,q3⟩:=h0 n _ _ (by omega) e0;rw [kj,ql (by omega)] at q2 q3;exact ⟨a,q1,q2,q3⟩
theorem jjR {α β:Type} {g0:α->List A} {g1:β->List A} {p0:α->Prop} {p1:β->Prop} {f0 f1:Field} {k0 k1:Nat} (ht:P.underlying t=some (.struct #[f0,f1]))
  (o0:f0.offset=0) (o1:f1.offset=k0) (c0:P.cellsOf f0.type=k0) (c1:P.cellsOf f1.type=k1) (c:P.cellsOf t=k0+k1)
  (h0:∀n cs x,n < fuel->DataW.trod enc P w base spare held n f0.type cs=some x-> ∃a,p0 a/\jG w (λ_=>False) (g0 a) cs/\jA cs)
  (h1:∀n cs x,n < fuel->DataW.trod enc P w base spare held n f1.type cs=some x-> ∃a,p1 a/\jG w (λ_=>False) (g1 a) cs/\jA cs)
  (h:DataW.trod enc P w base spare held fuel t cs=some x):∃a b,p0 a/\p1 b/\jG w (λ_=>False) (g0 a++g1 b) cs/\jA cs:=by
 obtain ⟨xs,n,hfn,rfl,hl,hlen,hf⟩:=DataW.trod_struct ht h;have e0:=hf 0 f0 rfl;have e1:=hf 1 f1 rfl;rw [o0,c0] at e0;rw [o1,c1] at e1;have hlen:xs.length=2:=hlen;have hx0:xs[0]? = some xs[0]:=zk (by omega);have hx1:xs[1]? = some xs[1]:=zk (by omega);rw [hx0] at e0;rw [hx1] at e1;obtain ⟨a,q1,q2,q3⟩:=h0 n _ _ (by omega) e0;obtain ⟨b,r1,r2,r3⟩:=h1 n _ _ (by omega) e1;have e:cs=(cs.drop 0).take k0++(cs.drop k0).take k1:=by
  rw [ql (l:=cs.drop k0) (by simp;omega),kj,Ql]
 rw [e];exact ⟨a,b,q1,r1,zy q2 r2,jA.append q3 r3⟩
end
inductive T where
 | mk (name:List UInt8) (args:List T)
def T.name:T->List UInt8 | .mk n _=>n
def T.args:T->List T | .mk _ us=>us
theorem T.eta (t:T):T.mk t.name t.args=t:=by cases t;rfl
mutual
def jm:T->List A
 | .mk n us=>[sv n,.sl 2 (jhL us)]
def jhL:List T->List (List A)
 | []=>[]
 | t::ts=>jm t::jhL ts
end
theorem jcu:∀ts:List T,jhL ts=ts.map jm
 | []=>rfl
 | t::ts=>by simp [jhL,jcu ts]
theorem zq (t:T):jm t = [sv t.name,.sl 2 (t.args.map jm)]:=by
 cases t;simp [jm,T.name,T.args,jcu]
theorem jkM (t:T):(jm t).length=2:=by rw [zq];rfl
abbrev tm (t:T):A:= .agg [sv t.name,.sl 2 (t.args.map jm)]
abbrev jQ (ts:List T):A:= .sl 2 (ts.map jm)
theorem jf (t:T):ke 2 (.elt (jm t) 0)=some (.agg [sv t.name,.sl 2 (t.args.map jm)]):=by rw [zq];rfl
mutual
def tsz:T->Nat
 | .mk n us=>n.length+us.length+Qc us
def Qc:List T->Nat
 | []=>0
 | t::ts=>tsz t+Qc ts
end
theorem kW (t:T):tsz t=t.name.length+t.args.length+Qc t.args:=by cases t;simp [tsz,T.name,T.args]
theorem yL:∀ {ts:List T} {t:T},t∈ts->tsz t<=Qc ts
 | [],_,h=>by cases h
 | u::us,t,h=>by
  simp only [Qc];rcases j7.1 h with rfl|h
  .omega
  .have:=yL h;omega
mutual
def J3:T->Prop
 | .mk n us=>n.length<=9223372036854775807/\us.length<=9223372036854775807/\jwT us
def jwT:List T->Prop
 | []=>True
 | t::ts=>J3 t/\jwT ts
end
theorem kH (t:T):J3 t↔t.name.length<=9223372036854775807/\t.args.length<=9223372036854775807/\jwT t.args:=by cases t;simp [J3,T.name,T.args]
theorem kE:∀ts:List T,jwT ts↔ ∀t∈ts,J3 t
 | []=>by simp [jwT]
 | t::ts=>by simp [jwT,kE ts]
theorem T.ind {p:T->Prop} (h:∀t,(∀u∈t.args,p u)->p t):∀t,p t:=by
 intro t;induction hn:SizeOf.sizeOf t using Nat.strongRecOn generalizing t with
 | ind n ih=>
  subst hn;refine h t λu hu=>ih (SizeOf.sizeOf u) ?_ u rfl;cases t with
  | mk nm us=>
   have:=List.sizeOf_lt_of_mem hu;simp only [T.args] at this;simp only [T.mk.sizeOf_spec];omega
section
variable {P:Program} {tT tS:Nat}
theorem jwl {H:Type} {enc:TypeId × Value->H} {w:World} {base:Nat} {spare:Nat->Bool} {held:Bool} {f0 f1:Field} (ht:P.underlying tT=some (.struct #[f0,f1])) (h0:P.underlying f0.type=some .string) (h1:P.underlying f1.type=some (.slice tT))
  (o0:f0.offset=0) (o1:f1.offset=1) (c0:P.cellsOf f0.type=1) (c1:P.cellsOf f1.type=1) (c2:P.cellsOf tT=2) :
  ∀(fuel:Nat) (cs:List Value) (x:DataW H × List MemPlace),DataW.trod enc P w base spare held fuel tT cs=some x-> ∃t,J3 t/\jG w (λ_=>False) (jm t) cs/\jA cs:=by
 intro fuel;induction fuel using Nat.strongRecOn with
 | ind fuel ih=>
  intro cs x h;obtain ⟨xs,n,hfn,rfl,hl,hlen,hf⟩:=DataW.trod_struct ht h;have e0:=hf 0 f0 rfl;have e1:=hf 1 f1 rfl;rw [o0,c0] at e0;rw [o1,c1] at e1;rw [c2] at hl
  match cs,hl with
  | [u,v],_=>
   match xs,hlen with
   | [y0,y1],_=>
    simp only [kj,jgn,Jv,qk] at e0;simp only [jgr,kj,jgn,Jv,List.getElem?_cons_succ,qk] at e1;obtain ⟨s,hs,_,hsz⟩:=DataW.trod_string h0 e0;obtain ⟨ts,⟨hts,htl⟩,hr,ho⟩:=jrj (P:=P) (t:=f1.type) (e:=tT) (f:=jm) (p:=J3) jkM (by decide) h1 c2 (λm cs' x' hm hx'=>ih m (by omega) cs' x' hx') e1;have hbs:∀s:ByteArray,(⟨⟨bs s⟩⟩:ByteArray)=s:=λs=>rfl;refine ⟨.mk (bs s) ts,by simp only [J3];exact ⟨by show (bs s).length<=_;rw [<-jcT];simpa [maxLen] using hsz,htl,(kE ts).2 hts⟩,?_,?_⟩
    .simp only [jm,jcu];simp only [Ju,and_true] at hs;subst hs;simp only [jG,Ju] at hr;obtain ⟨v',r',⟨rfl,rfl⟩,h3,_⟩:=hr;simp only [jG];exact ⟨_,_,rfl,by simp [rel,hbs],_,_,rfl,h3,rfl⟩
    .simp only [Ju,and_true] at hs;subst hs;intro z hz;rcases j7.1 hz with rfl|hz
     .simp [Value.oneCell']
     .exact ho z hz
end
theorem jCC:Rdr Tryz.prog 67 jm J3:=λ_ _ _ _ _ _ fuel cs x h=>
 jwl Tryz.underlying67 Tryz.underlying9 Tryz.underlying65 rfl rfl (by kernel_rfl) (by kernel_rfl) (by kernel_rfl) fuel cs x h
theorem jAd:Rdr Tryz.prog 3 ci I64:=Rdr.int Tryz.underlying3
theorem juJ:Rdr Tryz.prog 4 (λb=>[vb b]) (λ_=>True):=Rdr.bool Tryz.underlying4
theorem jhE:Rdr Tryz.prog 26 (λxs:List Int=>[ints xs]) (λxs=>(∀x∈xs,I64 x)/\xs.length<=9223372036854775807):=
 Rdr.slice Tryz.underlying26 (by kernel_rfl) (by decide) (λ_=>rfl) jAd
structure Ord' where
 syms:List (List UInt8)
 ws:List Int
 var:Int
abbrev jnS (o:Ord'):List A:=[strs o.syms,ints o.ws,vi o.var]
abbrev od (o:Ord'):A:= .agg [strs o.syms,ints o.ws,vi o.var]
def owf (o:Ord'):Prop:=((∀s∈o.syms,s.length<=9223372036854775807)/\o.syms.length<=9223372036854775807)/\((∀x∈o.ws,I64 x)/\o.ws.length<=9223372036854775807)/\I64 o.var
set_option maxHeartbeats 1000000
def kA (left n:Int):Int:=if 0<=left - n then left - n else -1
theorem yp {left n:Int} (h:left < n):kA left n = -1:=jo (by omega)
theorem KC {left n:Int} (h:n<=left):kA left n=left - n:=jl (by omega)
theorem jaP {b:Int} (h:0<=b):kA b ((0:Nat):Int)=b:=by unfold kA;simp [h]
theorem YF (b m n:Int):kA (b - m) n=kA b (m+n):=by unfold kA;rw [Int.sub_sub]
theorem jak (b n:Int): -1<=kA b n:=by unfold kA;split<;>omega
theorem jaj {b m n:Int} (h:m<=b):kA (kA b m) n=kA b (m+n):=by rw [KC h,YF]
def part {α:Type} (f:α->List A) (z:List A) (xs:List α) (i:Nat):List (List A):=(xs.take i).map f++List.replicate (xs.length - i) z
section
variable {α:Type} {f:α->List A} {z:List A} {xs:List α}
theorem Zw:Jp xs.length z=part f z xs 0:=by simp [part,Jp]
theorem Y0:part f z xs xs.length=xs.map f:=by simp [part]
theorem JD {i:Nat} (h:i<=xs.length):(part f z xs i).length=xs.length:=by simp [part];omega
theorem Y1 {i:Nat} (h:i < xs.length):jga (part f z xs i) i=some z:=by
 unfold jga part;rw [Kv (by simp;omega)];simp;rw [List.getElem?_replicate,jl (by omega)]
theorem Y2 {i:Nat} (h:i < xs.length):K9 (part f z xs i) i (f xs[i])=part f z xs (i+1):=by
 unfold K9 part;have e:xs.length - i=(xs.length - (i+1))+1:=by omega
 rw [List.set_append_right _ _ (by simp;omega),e,Qf]
 simp only [jK,qD,ja9 (Z1 h),jdZ,jgt];rw [<-List.take_append_getElem h,zz];simp
end
theorem jt4 (a b:A):KR [a] 0 [b] = [b]:=rfl
theorem jhu (a b c d:A):KR [a,b] 0 [c,d] = [c,d]:=rfl
theorem JV {b n:Nat} (hb:(b:Int) * (n:Int)<=281474976710656) (hn:n<=1048576):jjn b (vi n) (vi n)=some n:=by
 show (if _ then _ else _)=_;rw [jl (show jA8 b n n from ⟨by omega,Int.le_refl _,hb,by omega⟩),jkn]
theorem JC {k:Nat} {xs:List (List A)} {i:Nat} (h:i<=xs.length):zZ k (.sl k xs) none (some (vi i))=some (.sl k (xs.take i)):=by
 simp only [zZ,Zv,yo];rw [jl ⟨trivial,Int.le_refl _,by omega,by omega⟩];simp
theorem yZ {k:Nat} {xs:List (List A)} {i:Nat} (h:i<=xs.length):zZ k (.sl k xs) (some (vi i)) none=some (.sl k (xs.drop i)):=by
 simp only [zZ,Zv,yo];rw [jl ⟨trivial,by omega,by omega,by omega⟩];simp
def jKr (k:Int):Nat->List Int
 | 0=>[]
 | n+1=>k::jKr (k+1) n
section
variable {α:Type} {f:α->List A} (M r:List α) (x:α)
end
section
variable (M R:List (List A)) (x y:List A)
end
def jAC:List (List UInt8)->Nat
 | []=>0
 | s::l=>s.length+jAC l
theorem jhK (l:List Int) (hl:l.length<=9223372036854775807) (left:Int) (h0:0<=left) (h1:left<=1048576):G 13 [ints l,vi left]=some (vi (kA left ((l.length:Nat):Int)),[]):=by
 have hk:=jfN h0 (jba h1 (by decide)) hl;rw [g13];simp only [je,hk];by_cases hc:left - l.length < 0
 .simp only [je,hc];rw [yp (by omega)]
 .simp only [je,hc];rw [KC (by omega)]
def osz (o:Ord'):Nat:=o.syms.length+jAC o.syms+o.ws.length
theorem jAJ (ts:List T) (hl:ts.length<=9223372036854775807) (ih:∀t∈ts,∀left:Int,0<=left->left<=1048576->G 56 [tm t,vi left]=some (vi (kA left ((tsz t:Nat):Int)),[]))
  (left:Int) (h0:0<=left) (h1:left<=1048576):G 81 [jQ ts,vi left]=some (vi (kA left ((ts.length+Qc ts:Nat):Int)),[]):=by
 have loop:∀(a:Int),0<=a->a<=1048576->joR (jQ ts) (vi a) (vi 0)=some (vi (kA a (Qc ts)),[]):=by
  have key:=(upto (P:=λi=>∀a:Int,0<=a->a<=1048576->joR (jQ ts) (vi a) (vi i)=some (vi (kA a (Qc (ts.drop i))),[])) (n:=ts.length) ?_ ?_ 0 (jE _))
  .simp only [kj,jP] at key;exact key
  .intro b hb hb';rw [jDT,j4];simp only [je,Qc];rw [jaP hb]
  .intro i hi ih' b hb hb';have e1:=ih ts[i] (jr _) b hb hb';rw [jDT,ji hi];simp only [je,hi,K3,jb hi,jf,e1,jq hi hl,Qc];by_cases hc:b < (tsz ts[i]:Nat)
   .rw [yp hc,yp (by omega)];rfl
   .have hp:=KC (jbc.1 hc);have ih':=ih' (kA b (tsz ts[i]:Nat)) (by omega) (by omega);have hn:¬kA b ((tsz ts[i]:Nat):Int) < 0:=by omega
    simp only [je,hn,ih'];rw [jaj (jbc.1 hc),<-Qh]
 have hk:=jfN h0 (jba h1 (by decide)) hl;rw [g81];simp only [je,hk];by_cases hc:left - ts.length < 0
 .simp only [je,hc];rw [yp (by omega)]
 .have hl:=loop (left - ts.length) (by omega) (by omega);simp only [je,hc,hl];rw [YF,<-Qh]
theorem jC1 (t:T):J3 t-> ∀left:Int,0<=left->left<=1048576->G 56 [tm t,vi left]=some (vi (kA left ((tsz t:Nat):Int)),[]):=by
 refine T.ind (p:=λt=>J3 t-> ∀left:Int,0<=left->left<=1048576->G 56 [tm t,vi left]=some (vi (kA left ((tsz t:Nat):Int)),[])) ?_ t;intro t ih hw left h0 h1;obtain ⟨w1,w2,w3⟩:=(kH t).1 hw;have w3:=(kE _).1 w3;have hk:=jfN h0 (jba h1 (by decide)) w1;rw [g56,kW];simp only [je,hk];by_cases hc:left - t.name.length < 0
 .simp only [je,hc];rw [yp (by omega)]
 .have e2:=jAJ t.args w2 (λu hu=>ih u hu (w3 u hu)) (left - t.name.length) (by omega) (by omega);simp only [je,hc,e2];rw [YF,<-Qh,<-Q3];by_cases h2:kA left ((t.name.length+t.args.length+Qc t.args:Nat):Int) < 0
  .have:kA left ((t.name.length+t.args.length+Qc t.args:Nat):Int) = -1:=by have:=jak left (t.name.length+t.args.length+Qc t.args:Nat);omega
   simp only [je,h2,this]
  .simp only [je,h2]
theorem jhN (l:List Int) (hl:l.length<=1048576):G 19 [ints l]=some (ints l,[]):=by
 have key:=(upto (P:=λi=>jtD (ints l) (vi i) (part ci [vi 0] l i)=some (ints l,[])) (n:=l.length) ?_ ?_ 0 (jE _))
 .rw [g19];have hm:=JV (b:=8) (n:=l.length) (by omega) hl;simp only [jP,<-Zw] at key;simp only [je,hm,key]
 .rw [jDs,Y0];simp only [je]
 .intro i hi ih;have h1:=JD (f:=ci) (z:=[vi 0]) (Z1 hi);have h2:Q4 (part ci [vi 0] l i).length (vi i)=some i:=yj (by omega);have h4:=Y2 (f:=ci) (z:=[vi 0]) hi;have h5:=jq hi (qN hl (by decide));rw [jDs];simp only [je,hi,K3,jb hi,h2,Y1 hi,jt4,h4,h5,ih]
theorem jAM (ts:List T) (hl:ts.length<=1048576) (ih:∀t∈ts,G 66 [tm t]=some (tm t,[])):G 90 [jQ ts]=some (jQ ts,[]):=by
 have key:=(upto (P:=λi=>jtY (jQ ts) (vi i) (part jm [sv [],.sl 2 []] ts i)=some (jQ ts,[])) (n:=ts.length) ?_ ?_ 0 (jE _))
 .rw [g90];have hm:=JV (b:=40) (n:=ts.length) (by omega) hl;simp only [jP,<-Zw] at key;simp only [je,hm,key]
 .rw [jDY,Y0];simp only [je]
 .intro i hi ih';have h1:=JD (f:=jm) (z:=[sv [],.sl 2 []]) (Z1 hi);have h2:Q4 (part jm [sv [],.sl 2 []] ts i).length (vi i)=some i:=yj (by omega);have h4:=Y2 (f:=jm) (z:=[sv [],.sl 2 []]) hi;rw [zq] at h4;have h5:=jq hi (qN hl (by decide));have e1:=ih ts[i] (jr _);rw [jDY];simp only [je,hi,K3,jb hi,jf,e1,h2,Y1 hi,jhu,h4,h5,ih']
theorem jC6 (t:T):tsz t<=1048576->G 66 [tm t]=some (tm t,[]):=by
 refine T.ind (p:=λt=>tsz t<=1048576->G 66 [tm t]=some (tm t,[])) ?_ t;intro t ih h;rw [kW] at h;have e1:=jAM t.args (by omega) λu hu=>ih u hu (by have:=yL hu;omega);rw [g66];simp only [je,e1]
theorem jhw (l:List Int) (hl:l.length<=9223372036854775807):G 25 [ints l,ints l]=some (vb true,[]):=by
 have key:=(upto (P:=λi=>jtF (ints l) (ints l) (vi i)=some (vb true,[])) (n:=l.length) ?_ ?_ 0 (jE _))
 .rw [g25];simp only [jP] at key;simp only [je,key]
 .rw [jDv];simp only [je]
 .intro i hi ih;have h5:=jq hi hl;rw [jDv];simp only [je,hi,K3,jb hi,h5,ih]
theorem jxZ (ts:List T) (hl:ts.length<=9223372036854775807) (ih:∀t∈ts,G 80 [tm t,tm t]=some (vb true,[])):G 104 [jQ ts,jQ ts]=some (vb true,[]):=by
 have key:=(upto (P:=λi=>jmh (jQ ts) (jQ ts) (vi i)=some (vb true,[])) (n:=ts.length) ?_ ?_ 0 (jE _))
 .rw [jIo];simp only [jP] at key;simp only [je,key]
 .rw [jym];simp only [je]
 .intro i hi ih';have h5:=jq hi hl;have e1:=ih ts[i] (jr _);rw [jym];simp only [je,hi,K3,jb hi,jf,e1,h5,ih']
theorem jBY (t:T):J3 t->G 80 [tm t,tm t]=some (vb true,[]):=by
 refine T.ind (p:=λt=>J3 t->G 80 [tm t,tm t]=some (vb true,[])) ?_ t;intro t ih h;obtain ⟨w1,w2,w3⟩:=(kH t).1 h;have w3:=(kE _).1 w3;have e1:=jxZ t.args w2 λu hu=>ih u hu (w3 u hu);rw [g80];simp only [je,e1]
theorem YY {l:List UInt8} {i:Nat} (h:i < l.length):yD (sv l) (vi i)=some (vy (l[i].toNat:Int)):=by
 show (if _ then _ else _)=_;rw [jl ⟨by omega,by simpa using h⟩];simp [qE,h]
theorem qJ {c:UInt8} {l:List UInt8} :yD (sv (c::l)) (vi 0)=some (vy (c.toNat:Int)):=YY (i:=0) (l:=c::l) (by simp)
def qg (lo hi x:Int):Bool:=decide (lo<=x) && decide (x<=hi)
theorem qc (x a b:Int):G 43 [vi x,vi a,vi b]=some (vb (qg a b x),[]):=by
 rw [g43];by_cases h:a<=x<;>simp only [je,h,qg,jI,jH]
theorem yb (x a b:Int):G 32 [vi x,vi a,vi b]=some (vb (qg a b x),[]):=by
 rw [g32];by_cases h:a<=x<;>simp only [je,h,qg,jI,jH]
def upc (c:UInt8):Bool:=qg 65 90 (c.toNat:Int)
def jdD (c:UInt8):Bool:=qg 97 122 (c.toNat:Int)
def jvk (c:UInt8):Bool:=qg 48 57 (c.toNat:Int)
def Ka (c:UInt8):Bool:=jdD c || jvk c
theorem jaM (c:UInt8):G 152 [vy (c.toNat:Int)]=some (vb (upc c),[]):=by
 rw [jIU];by_cases h:65<=(c.toNat:Int)<;>simp only [je,h,upc,qg,jI,jH]
theorem jdz (c:UInt8):G 149 [vy (c.toNat:Int)]=some (vb (jdD c),[]):=by
 rw [jIR];by_cases h:97<=(c.toNat:Int)<;>simp only [je,h,jdD,qg,jI,jH]
theorem jiK (c:UInt8):G 150 [vy (c.toNat:Int)]=some (vb (jvk c),[]):=by
 rw [jIS];by_cases h:48<=(c.toNat:Int)<;>simp only [je,h,jvk,qg,jI,jH]
theorem jiV (c:UInt8):G 110 [vy (c.toNat:Int)]=some (vb (Ka c),[]):=by
 rw [jIt];by_cases h:97<=(c.toNat:Int)<;>by_cases h2:(c.toNat:Int)<=122<;>by_cases h3:48<=(c.toNat:Int)<;>simp only [je,h,h2,h3,Ka,jdD,jvk,qg,jI,jH,Bool.or_true,jfi,yz,kN]
def jp:List UInt8->Bool
 | []=>false
 | c::r=>upc c && (r.all Ka && decide (r.length<=3))
theorem jhy (r:List UInt8) (k:Nat) (hk:k<=9):qg 1 (k+1:Nat) (((r.length+1:Nat)):Int)=decide (r.length<=k):=by
 unfold qg;have:decide ((1:Int)<=((r.length+1:Nat):Int))=true:=by simp;omega
 rw [this,jI];by_cases h:r.length<=k<;>simp [h]<;>omega
theorem jhk (s:List UInt8) (hs:s.length<=9223372036854775807):∀i,i<=s.length->1<=i->jhW (sv s) (vi (s.length:Nat)) (vi i)=some (vb ((s.drop i).all Ka && qg 1 4 (s.length:Nat)),[]):=by
 refine upto (P:=λi=>1<=i->jhW (sv s) (vi (s.length:Nat)) (vi i)=some (vb ((s.drop i).all Ka && qg 1 4 (s.length:Nat)),[])) ?_ ?_
 .intro _;rw [jnv,j4];have e:=qc (s.length:Nat) 1 4;simp only [je,e,jI]
 .intro i hi ih h1;have ih:=ih (by omega);have hn:¬((i:Int)=0):=by omega
  have hp:(0:Int) < (i:Int):=by omega
  have hlt:(i:Int) < ((s.length:Nat):Int):=by omega
  have h5:=jq hi hs;have hx:=YY hi;have e1:=jdz s[i];have e2:=jiK s[i];rw [jnv,ji hi];generalize s[i]=ch at *;rw [yC];cases h8:jdD ch<;>cases h9:jvk ch<;>rw [h8] at e1<;>rw [h9] at e2<;>simp only [je,hn,hp,hlt,hx,e1,e2,h5,ih,Ka,h8,h9,jI,jH,Bool.or_true,jfi,yz,kN]
theorem jda (s:List UInt8) (hs:s.length<=9223372036854775807):G 146 [sv s]=some (vb (jp s),[]):=by
 rw [jIO];show (jeT (sv s)).bind _=_;rw [jce,yo];cases s with
 | nil=>
  rw [jnv];have e:=qc ((0:Nat):Int) 1 4;simp only [je,e];rfl
 | cons c r=>
  have key:=jhk (c::r) hs 1 (by simp) (kD _);simp only [jgr,kj] at key;have e':qg 1 4 (((c::r).length:Nat):Int)=decide (r.length<=3):=jhy r 3 (by decide);rw [e'] at key;rw [jnv];have h5:jz .add false (vi 0) (vi 1)=some (vi ((1:Nat):Int)):=by rw [KZ,j8 (by decide) (by decide)];rfl
  have h6:(0:Int) < (((c::r).length:Nat):Int):=Int.natCast_pos.2 (Nat.succ_pos _);have e1:=jaM c;generalize ((((c::r).length:Nat)):Int)=n at *;cases hu:upc c<;>rw [hu] at e1<;>simp only [je,h6,qJ,e1,h5,key,jp,hu,jI,jH]
theorem jsK (s:List UInt8) (hs:s.length<=9223372036854775807):∀i,i<=s.length->jfv (sv s) (vi i)=some (vb ((s.drop i).all Ka),[]):=by
 refine upto (P:=λi=>jfv (sv s) (vi i)=some (vb ((s.drop i).all Ka),[])) ?_ ?_
 .rw [jyp,j4];simp only [je]
 .intro i hi ih;have hlt:(i:Int) < ((s.length:Nat):Int):=by omega
  have h5:=jq hi hs;have hx:=YY hi;have e1:=jiV s[i];rw [jyp,ji hi];generalize s[i]=ch at *;rw [yC];cases h8:Ka ch<;>rw [h8] at e1<;>simp only [je,hlt,hx,e1,h5,ih,h8,jI,jH]
theorem zE (s:List UInt8) (hs:s.length<=9223372036854775807):G 109 [sv s]=some (vb (jp s),[]):=by
 rw [jIs];show (jeT (sv s)).bind _=_;rw [jce,yo];cases s with
 | nil=>
  have e:=yb ((0:Nat):Int) 1 4;simp only [je,e];rfl
 | cons c r=>
  have e:=yb (((c::r).length:Nat):Int) 1 4;have e':qg 1 4 (((c::r).length:Nat):Int)=decide (r.length<=3):=jhy r 3 (by decide);rw [e'] at e;have key:=jsK (c::r) hs 1 (by simp);simp only [jgr,kj] at key;have key:jfv (sv (c::r)) (vi 1)=some (vb (r.all Ka),[]):=key;generalize ((((c::r).length:Nat)):Int)=n at *;by_cases h3:r.length<=3
  .rw [jR h3] at e;by_cases ha:(c.toNat:Int) < 65
   .have:¬(65<=(c.toNat:Int)):=by omega
    simp only [je,e,qJ,ha,jp,upc,qg,this,jH]
   .have h65:65<=(c.toNat:Int):=by omega
    by_cases hb:90 < (c.toNat:Int)
    .have:¬((c.toNat:Int)<=90):=by omega
     simp only [je,e,qJ,ha,hb,jp,upc,qg,this,jH,z8]
    .have:(c.toNat:Int)<=90:=by omega
     simp only [je,e,qJ,ha,hb,jp,upc,qg,this,h65,key,h3,jI,jaw]
  .rw [kx h3] at e;simp only [je,e,jp,h3,z8]
def qF (s:List UInt8):List (List UInt8)->Option Nat
 | []=>none
 | x::l=>if s=x then some 0 else (qF s l).map (· + 1)
def yA (i:Nat):Option Nat->Int
 | none=> -1
 | some k=>((i+k:Nat):Int)
theorem Qx (s:List UInt8):∀l,(qF s l).isSome=l.contains s
 | []=>rfl
 | x::l=>by
  simp only [qF,List.contains_cons];by_cases h:s=x
  .simp [h]
  .have:=Qx s l;simp [h,this]
theorem jhx {s:List UInt8} :∀ {l:List (List UInt8)} {k:Nat},qF s l=some k->k < l.length/\l[k]? = some s
 | [],_,h=>by cases h
 | x::l,k,h=>by
  simp only [qF] at h;split at h
  .rename_i e;cases h;exact ⟨by simp,by simp [e]⟩
  .obtain ⟨j,h1,rfl⟩:=yP.1 h;have:=jhx h1;exact ⟨by simp;exact this.1,by simpa using this.2⟩
theorem jvq (s:List UInt8) (l:List (List UInt8)):decide (yA 0 (qF s l) < 0)=!l.contains s:=by
 rw [<-Qx];cases qF s l<;>simp [yA]
theorem jnl (s:List UInt8) (l:List (List UInt8)):decide (0<=yA 0 (qF s l))=l.contains s:=by
 rw [<-Qx];cases qF s l<;>simp [yA]
theorem jiA {s x:List UInt8} {l:List (List UInt8)} {i:Nat} (h:¬s=x):yA (i+1) (qF s l)=yA i (qF s (x::l)):=by
 simp only [qF,h,K6];cases qF s l<;>simp [yA];omega
theorem jaK (l:List (List UInt8)) (s:List UInt8) (hl:l.length<=9223372036854775807):G 154 [strs l,sv s]=some (vi (yA 0 (qF s l)),[]):=by
 have key:=upto (P:=λi=>jmq (strs l) (sv s) (vi (l.length:Nat)) (vi i)=some (vi (yA i (qF s (l.drop i))),[])) (n:=l.length) ?_ ?_ 0 (jE _)
 .simp only [jP,kj] at key;rw [jIV];simp only [je,key]
 .rw [jyz,j4];simp only [je,qF,yA]
 .intro i hi ih;have hlt:(i:Int) < ((l.length:Nat):Int):=by omega
  have h5:=jq hi hl;rw [jyz,ji hi];by_cases h:s=l[i]
  .simp only [je,hlt,jb hi,h,qF,yA,j6]
  .simp only [je,hlt,jb hi,h,h5,ih,jiA h]
theorem ZF (l:List (List UInt8)) (s:List UInt8) (hl:l.length<=9223372036854775807):G 126 [strs l,sv s]=some (vb (l.contains s),[]):=by
 have e:=jaK l s hl;rw [jIG];simp only [je,e,jnl]
theorem jhD (o:Ord') (s:List UInt8) (hl:o.syms.length<=9223372036854775807):G 292 [od o,sv s]=some (vi (yA 0 (qF s o.syms)),[]):=by
 have key:=upto (P:=λi=>jm1 (sv s) (vi i) (strs o.syms) (ints o.ws) (vi o.var)=some (vi (yA i (qF s (o.syms.drop i))),[])) (n:=o.syms.length) ?_ ?_ 0 (jE _)
 .simp only [jP,kj] at key;rw [jKi];simp only [je,key]
 .rw [jzv,j4];simp only [je,qF,yA]
 .intro i hi ih;have hlt:(i:Int) < ((o.syms.length:Nat):Int):=by omega
  have h5:=jq hi hl;rw [jzv,ji hi];by_cases h:s=o.syms[i]
  .simp only [je,hlt,jb hi,h,qF,yA,j6]
  .have h':¬o.syms[i]=s:=λe=>h e.symm;simp only [je,hlt,jb hi,h',h5,ih,jiA h]
theorem jnB (l:List (List UInt8)) (s:List UInt8) (hl:l.length<=9223372036854775807):G 112 [strs l,sv s]=some (vb (l.contains s),[]):=by
 have key:=upto (P:=λi=>jml (strs l) (sv s) (vi i)=some (vb ((l.drop i).contains s),[])) (n:=l.length) ?_ ?_ 0 (jE _)
 .simp only [jP,kj] at key;rw [jIv];exact key
 .rw [jyq,j4];simp only [je,List.contains_nil]
 .intro i hi ih;have hlt:(i:Int) < ((l.length:Nat):Int):=by omega
  have h5:=jq hi hl;rw [jyq,ji hi,List.contains_cons];by_cases h:l[i]=s
  .have:(s == l[i])=true:=by simp [h]
   simp only [je,hlt,jb hi,h,this,yz];simp
  .have:(s == l[i])=false:=by simp;exact λe=>h e.symm
   simp only [je,hlt,jb hi,h,this,h5,ih,kN]
def jq1:List (List UInt8):=[[116,114,117,101],[102,97,108,115,101],[116,114,117,116,104],[98,111,116,104],[101,105,116,104,101,114],[105,102],[97,108,108],[115,111,109,101]]
def jok (c:UInt8):Bool:=Ka c || decide ((c.toNat:Int)=95)
def qP:List UInt8->Bool
 | []=>false
 | c::r=>jdD c && (r.all jok && (decide (r.length<=5) && !jq1.contains (c::r)))
theorem jBg (a b:List UInt8):(a == b)=decide (a=b):=by by_cases h:a=b<;>simp [h]
theorem jkC (s:List UInt8) (hs:s.length<=9223372036854775807):∀i,i<=s.length->1<=i->jhT (sv s) (vi (s.length:Nat)) (vi i)=some (vb ((s.drop i).all jok && (qg 1 6 (s.length:Nat) && !jq1.contains s)),[]):=by
 refine upto (P:=λi=>1<=i->jhT (sv s) (vi (s.length:Nat)) (vi i)=some (vb ((s.drop i).all jok && (qg 1 6 (s.length:Nat) && !jq1.contains s)),[])) ?_ ?_
 .intro _;rw [jnu,j4];have e:=qc (s.length:Nat) 1 6;have e2:=ZF jq1 s (by decide);have e3:G 151 []=some (strs jq1,[]):=jIT;cases h:qg 1 6 (s.length:Nat)<;>rw [h] at e<;>simp only [je,e,e2,e3,h,jI,jH,jdn]
 .intro i hi ih h1;have ih:=ih (by omega);have hn:¬((i:Int)=0):=by omega
  have hlt:(i:Int) < ((s.length:Nat):Int):=by omega
  have h5:=jq hi hs;have hx:=YY hi;have e1:=jdz s[i];have e2:=jiK s[i];rw [jnu,ji hi];generalize s[i]=ch at *;rw [yC];cases h7:decide ((ch.toNat:Int)=95)<;>cases h8:jdD ch<;>cases h9:jvk ch<;>rw [h8] at e1<;>rw [h9] at e2<;>
   simp only [je,hn,hlt,hx,e1,e2,h5,ih,jok,Ka,h7,h8,h9,jI,jH,Bool.or_true,jfi,yz,kN]
theorem jb3 (s:List UInt8) (hs:s.length<=9223372036854775807):G 121 [sv s]=some (vb (qP s),[]):=by
 rw [jIC];show (jeT (sv s)).bind _=_;rw [jce,yo];cases s with
 | nil=>
  rw [jnu];have e:G 43 [vi ((0:Nat):Int),vi 1,vi 6]=some (vb false,[]):=qc ((0:Nat):Int) 1 6;simp only [je,e];rfl
 | cons c r=>
  have key:=jkC (c::r) hs 1 (by simp) (kD _);simp only [jgr,kj] at key;have e':qg 1 6 (((c::r).length:Nat):Int)=decide (r.length<=5):=jhy r 5 (by decide);rw [e'] at key;rw [jnu];have h5:jz .add false (vi 0) (vi 1)=some (vi ((1:Nat):Int)):=by rw [KZ,j8 (by decide) (by decide)];rfl
  have h6:(0:Int) < (((c::r).length:Nat):Int):=Int.natCast_pos.2 (Nat.succ_pos _);have e1:=jdz c;generalize ((((c::r).length:Nat)):Int)=n at *;cases hu:jdD c<;>rw [hu] at e1<;>simp only [je,h6,qJ,e1,h5,key,qP,hu,jI,jH]
theorem jkD (s:List UInt8) (hs:s.length<=9223372036854775807):∀i,i<=s.length->Q7 (sv s) (vi i)=some (vb ((s.drop i).all jok),[]):=by
 refine upto (P:=λi=>Q7 (sv s) (vi i)=some (vb ((s.drop i).all jok),[])) ?_ ?_
 .rw [jDV,j4];simp only [je]
 .intro i hi ih;have hlt:(i:Int) < ((s.length:Nat):Int):=by omega
  have h5:=jq hi hs;have hx:=YY hi;have e1:=jiV s[i];rw [jDV,ji hi];generalize s[i]=ch at *;rw [yC];cases h7:decide ((ch.toNat:Int)=95)<;>cases h8:Ka ch<;>rw [h8] at e1<;>simp only [je,hlt,hx,e1,h5,ih,jok,h7,h8,jI,jH,Bool.or_true,jfi,yz,kN]
theorem QB (s:List UInt8) (hs:s.length<=9223372036854775807):G 85 [sv s]=some (vb (qP s),[]):=by
 rw [g85];show (jeT (sv s)).bind _=_;rw [jce,yo];cases s with
 | nil=>
  have e:G 32 [vi ((0:Nat):Int),vi 1,vi 6]=some (vb false,[]):=yb ((0:Nat):Int) 1 6;simp only [je,e];rfl
 | cons c r=>
  have e:=yb (((c::r).length:Nat):Int) 1 6;have e':qg 1 6 (((c::r).length:Nat):Int)=decide (r.length<=5):=jhy r 5 (by decide);rw [e'] at e;have key:=jkD (c::r) hs 1 (by simp);simp only [jgr,kj] at key;have key:Q7 (sv (c::r)) (vi 1)=some (vb (r.all jok),[]):=key;generalize ((((c::r).length:Nat)):Int)=n at *;have hres:jq1.contains (c::r)=(decide (c::r = [116,114,117,101]) || (decide (c::r = [102,97,108,115,101]) || (decide (c::r = [116,114,117,116,104]) || (decide (c::r = [98,111,116,104]) || (decide (c::r = [101,105,116,104,101,114]) || (decide (c::r = [105,102]) || (decide (c::r = [97,108,108]) || decide (c::r = [115,111,109,101])))))))):=by
   simp only [jq1,List.contains_cons,List.contains_nil,jfi,jBg]
  by_cases h3:r.length<=5
  .rw [jR h3] at e;by_cases ha:(c.toNat:Int) < 97
   .have:¬(97<=(c.toNat:Int)):=by omega
    simp only [je,e,qJ,ha,qP,jdD,qg,this,jH]
   .have h65:97<=(c.toNat:Int):=by omega
    by_cases hb:122 < (c.toNat:Int)
    .have:¬((c.toNat:Int)<=122):=by omega
     simp only [je,e,qJ,ha,hb,qP,jdD,qg,this,jH,z8]
    .have h122:(c.toNat:Int)<=122:=by omega
     have e0:qP (c::r)=(r.all jok && !jq1.contains (c::r)):=by
      simp [qP,jdD,qg,h65,h122,h3]
     rw [e0,hres];have hx0:=qJ (c:=c) (l:=r);clear hres e0;generalize c::r=s at *;cases q0:decide (s = [116,114,117,101]);rotate_left
     .simp only [je,e,hx0,ha,hb,q0,yz,kN,z8]
     cases q1:decide (s = [102,97,108,115,101]);rotate_left
     .simp only [je,e,hx0,ha,hb,q0,q1,yz,kN,z8]
     cases q2:decide (s = [116,114,117,116,104]);rotate_left
     .simp only [je,e,hx0,ha,hb,q0,q1,q2,yz,kN,z8]
     cases q3:decide (s = [98,111,116,104]);rotate_left
     .simp only [je,e,hx0,ha,hb,q0,q1,q2,q3,yz,kN,z8]
     cases q4:decide (s = [101,105,116,104,101,114]);rotate_left
     .simp only [je,e,hx0,ha,hb,q0,q1,q2,q3,q4,yz,kN,z8]
     cases q5:decide (s = [105,102]);rotate_left
     .simp only [je,e,hx0,ha,hb,q0,q1,q2,q3,q4,q5,yz,kN,z8]
     cases q6:decide (s = [97,108,108]);rotate_left
     .simp only [je,e,hx0,ha,hb,q0,q1,q2,q3,q4,q5,q6,yz,kN,z8]
     cases q7:decide (s = [115,111,109,101]);rotate_left
     .simp only [je,e,hx0,ha,hb,q0,q1,q2,q3,q4,q5,q6,q7,yz,kN,z8]
     simp only [je,e,hx0,ha,hb,q0,q1,q2,q3,q4,q5,q6,q7,yz,kN,jaw,jfi,key]
  .rw [kx h3] at e;simp only [je,e,qP,h3,jH,z8]
mutual
def nodes:T->Nat
 | .mk _ us=>1+jx us
def jx:List T->Nat
 | []=>0
 | t::ts=>nodes t+jx ts
end
theorem jU (t:T):nodes t=1+jx t.args:=by cases t;rfl
mutual
def Yf:T->Nat
 | .mk _ us=>1+QQ us
def QQ:List T->Nat
 | []=>0
 | t::ts=>max (Yf t) (QQ ts)
end
theorem Zi (t:T):Yf t=1+QQ t.args:=by cases t;rfl
mutual
def yv:T->Bool
 | .mk n us=>if jp n then us.isEmpty else qP n && (decide (us.length<=4) && jca us)
def jca:List T->Bool
 | []=>true
 | t::ts=>yv t && jca ts
end
theorem yT (t:T):yv t=if jp t.name then t.args.isEmpty else qP t.name && (decide (t.args.length<=4) && jca t.args):=by cases t;rfl
theorem Ke:∀ts,jca ts=ts.all yv
 | []=>rfl
 | t::ts=>by rw [jca,Ke ts,yC]
theorem Jj:∀t:T,nodes t<=1+tsz t:=by
 refine T.ind λt ih=> ?_;have:∀ts:List T,(∀u∈ts,nodes u<=1+tsz u)->jx ts<=ts.length+Qc ts:=by
  intro ts;induction ts with
  | nil=>intro _;simp [jx]
  | cons u us ih=>
   intro h;have h1:=h u (by simp);have h2:=ih λv hv=>h v (by simp [hv]);simp only [jx,Qc,zM];omega
 have h:=this t.args ih;rw [jU,kW];omega
theorem qH (t:T):1<=nodes t:=by rw [jU];omega
theorem qz {ts:List T} {t:T} (h:t∈ts):nodes t<=jx ts:=by
 induction ts with
 | nil=>cases h
 | cons u us ih=>
  simp only [jx];rcases j7.1 h with rfl|h
  .omega
  .have:=ih h;omega
theorem jxJ:∀t:T,Yf t<=nodes t:=by
 refine T.ind λt ih=> ?_;have:∀ts:List T,(∀u∈ts,Yf u<=nodes u)->QQ ts<=jx ts:=by
  intro ts;induction ts with
  | nil=>intro _;simp [QQ]
  | cons u us ih=>
   intro h;have h1:=h u (by simp);have h2:=ih λv hv=>h v (by simp [hv]);simp only [jx,QQ];omega
 have h:=this t.args ih;rw [jU,Zi];omega
theorem jwx (ts:List T) (hl:ts.length<=9223372036854775807) (hn:jx ts<=1048577) (ih:∀t∈ts,∃r:Nat,G 144 [tm t]=some (vi r,[])/\r<=nodes t/\(nodes t<=30->r=nodes t)/\(30 < nodes t->30 < r)) :
  ∀i,i<=ts.length-> ∀a:Nat,a+jx (ts.drop i)<=1048578-> ∃r:Nat,jmo (vi a) (jQ ts) (vi (ts.length:Nat)) (vi i)=some (vi r,[])/\r<=a+jx (ts.drop i)/\(a+jx (ts.drop i)<=30->r=a+jx (ts.drop i))/\(30 < a+jx (ts.drop i)->30 < r):=by
 refine upto ?_ ?_
 .intro a ha;rw [jsC,j4];simp only [je,jx,j6];exact ⟨a,rfl,kD _,λ_=>rfl,λh=>h⟩
 .intro i hi ih' a ha;have hlt:(i:Int) < ((ts.length:Nat):Int):=by omega
  have h5:=jq hi hl;rw [ji hi] at ha ⊢;simp only [jx] at ha ⊢;obtain ⟨r1,e1,b1,b2,b3⟩:=ih ts[i] (jr _);by_cases hc:(30:Int) < (a:Int)
  .refine ⟨a,?_,by omega,by omega,by omega⟩;rw [jsC];simp only [je,hlt,jb hi,jf,hc]
  .have hk:ck ((a:Int)+(r1:Int))=some (vi ((a+r1:Nat):Int)):=by rw [j8 (by omega) (by omega)];rfl
   obtain ⟨r2,e2,c1,c2,c3⟩:=ih' (a+r1) (by omega);refine ⟨r2,?_,by omega,by omega,by omega⟩;rw [jsC];simp only [je,hlt,jb hi,jf,hc,e1,hk,h5,e2]
theorem size_eq:∀t:T,J3 t->tsz t<=1048576-> ∃r:Nat,G 144 [tm t]=some (vi r,[])/\r<=nodes t/\(nodes t<=30->r=nodes t)/\(30 < nodes t->30 < r):=by
 refine T.ind λt ih hw hs=> ?_;obtain ⟨w1,w2,w3⟩:=(kH t).1 hw;have w3:=(kE _).1 w3;have hn:=Jj t;rw [jU] at hn;rw [kW] at hs;obtain ⟨r,h1,h2,h3,h4⟩:=jwx t.args w2 (by rw [kW] at hn;omega) (λu hu=>ih u hu (w3 u hu) (by have:=yL hu;omega)) 0 (jE _) 1 (by rw [kW] at hn;simp;omega);simp only [kj,jP,jkg] at h1 h2 h3 h4;refine ⟨r,?_,by rw [jU];exact h2,by rw [jU];exact h3,by rw [jU];exact h4⟩;rw [jIM];simp only [je,h1]
theorem jvQ (n:List UInt8) (most:Int) (hm1: -1048600<=most) (hm:most<=1048576) (ts:List T) (hl:ts.length<=9223372036854775807) (ih:∀t∈ts,∀m:Int,-1048600<=m->m<=1048576-> ∃r:Nat,G 107 [tm t,vi m]=some (vi r,[])/\1<=r/\r<=nodes t/\((nodes t:Int)<=m->r=nodes t)/\(m < nodes t->m < r)) :
  ∀i,i<=ts.length-> ∀a:Nat,1<=a->a+jx (ts.drop i)<=1048578-> ∃r:Nat,jmj (vi most) (vi a) (vi i) (sv n) (jQ ts)=some (vi r,[])/\1<=r/\r<=a+jx (ts.drop i)/\(((a+jx (ts.drop i):Nat):Int)<=most->r=a+jx (ts.drop i))/\(most < ((a+jx (ts.drop i):Nat):Int)->most < r):=by
 refine upto ?_ ?_
 .intro a h1 ha;rw [jsB,j4];simp only [je,jx,j6];exact ⟨a,rfl,h1,kD _,λ_=>rfl,λh=>h⟩
 .intro i hi ih' a h1 ha;have hlt:(i:Int) < ((ts.length:Nat):Int):=by omega
  have h5:=jq hi hl;rw [ji hi] at ha ⊢;simp only [jx] at ha ⊢;by_cases hc:(a:Int)<=most
  .obtain ⟨r1,e1,b0,b1,b2,b3⟩:=ih ts[i] (jr _) (most - a) (by omega) (by omega);have hk0:ck (most - (a:Int))=some (vi (most - a)):=j8 (by omega) (by omega);have hk:ck ((a:Int)+(r1:Int))=some (vi ((a+r1:Nat):Int)):=by rw [j8 (by omega) (by omega)];rfl
   obtain ⟨r2,e2,c0,c1,c2,c3⟩:=ih' (a+r1) (by omega) (by omega);refine ⟨r2,?_,by omega,by omega,by omega,by omega⟩;rw [jsB];simp only [je,hlt,jb hi,jf,hc,hk0,e1,hk,h5,e2]
  .refine ⟨a,?_,h1,by omega,by omega,by omega⟩;rw [jsB];simp only [je,hlt,hc]
theorem jCg:∀t:T,J3 t->tsz t<=1048576-> ∀m:Int,-1048600<=m->m<=1048576-> ∃r:Nat,G 107 [tm t,vi m]=some (vi r,[])/\1<=r/\r<=nodes t/\((nodes t:Int)<=m->r=nodes t)/\(m < nodes t->m < r):=by
 refine T.ind λt ih hw hs m hm1 hm=> ?_;obtain ⟨w1,w2,w3⟩:=(kH t).1 hw;have w3:=(kE _).1 w3;have hn:=Jj t;rw [jU] at hn;obtain ⟨r,h1,h0,h2,h3,h4⟩:=jvQ t.name m hm1 hm t.args w2 (λu hu m h1 h2=>ih u hu (w3 u hu) (by have:=yL hu;rw [kW] at hs;omega) m h1 h2) 0 (jE _) 1 (kD _) (by simp;omega);simp only [kj,jP,jkg] at h1 h2 h3 h4;refine ⟨r,?_,h0,by rw [jU];exact h2,by rw [jU];exact h3,by rw [jU];exact h4⟩;rw [jIq];simp only [je,h1]
theorem jso (ts:List T) (hl:ts.length<=9223372036854775807) (hn:jx ts<=1048577) (ih:∀t∈ts,G 145 [tm t]=some (vi (Yf t:Nat),[])) :
  ∀i,i<=ts.length-> ∀a:Nat,a<=1048577->jmp (vi a) (jQ ts) (vi (ts.length:Nat)) (vi i)=some (vi ((max a (QQ (ts.drop i))+1:Nat):Int),[]):=by
 refine upto ?_ ?_
 .intro a ha;have hk:ck ((a:Int)+1)=some (vi ((a+1:Nat):Int)):=by rw [j8 (by omega) (by omega)];rfl
  rw [jyy,j4];simp only [je,QQ,hk,Nat.max_zero]
 .intro i hi ih' a ha;have hlt:(i:Int) < ((ts.length:Nat):Int):=by omega
  have h5:=jq hi hl;have e1:=ih ts[i] (jr _);have hd:Yf ts[i]<=1048577:=qN (jxJ _) (qN (qz (jr hi)) hn);have hmx:(if (a:Int) < ((Yf ts[i]:Nat):Int) then ((Yf ts[i]:Nat):Int) else (a:Int))=((max a (Yf ts[i]):Nat):Int):=by split<;>omega
  have ih':=ih' (max a (Yf ts[i])) (by omega);rw [jyy,ji hi];simp only [je,hlt,jb hi,jf,e1,hmx,h5,ih',QQ,Nat.max_assoc]
theorem jxK:∀t:T,J3 t->tsz t<=1048576->G 145 [tm t]=some (vi (Yf t:Nat),[]):=by
 refine T.ind λt ih hw hs=> ?_;obtain ⟨w1,w2,w3⟩:=(kH t).1 hw;have w3:=(kE _).1 w3;have hn:=Jj t;rw [jU] at hn;have h1:=jso t.args w2 (by omega) (λu hu=>ih u hu (w3 u hu) (by have:=yL hu;rw [kW] at hs;omega)) 0 (jE _) 0 (by omega);simp only [kj,jP,Nat.zero_max] at h1;rw [jIN,Zi,Nat.add_comm];simp only [je,h1]
theorem jCh (a b:Nat):G 133 [vi a,vi b]=some (vi ((max a b:Nat):Int),[]):=by
 rw [jIH];by_cases h:(b:Int) < (a:Int)
 .simp only [je,h];rw [Nat.max_eq_left (by omega)]
 .simp only [je,h];rw [Nat.max_eq_right (by omega)]
theorem jnA (n:List UInt8) (ts:List T) (hl:ts.length<=9223372036854775807) (hn:jx ts<=1048577) (ih:∀t∈ts,G 108 [tm t]=some (vi (Yf t:Nat),[])) :
  ∀i,i<=ts.length-> ∀a:Nat,a<=1048577->jmk (vi a) (vi i) (sv n) (jQ ts)=some (vi ((max a (QQ (ts.drop i))+1:Nat):Int),[]):=by
 refine upto ?_ ?_
 .intro a ha;have hk:ck ((a:Int)+1)=some (vi ((a+1:Nat):Int)):=by rw [j8 (by omega) (by omega)];rfl
  rw [jyo,j4];simp only [je,QQ,hk,Nat.max_zero]
 .intro i hi ih' a ha;have hlt:(i:Int) < ((ts.length:Nat):Int):=by omega
  have h5:=jq hi hl;have e1:=ih ts[i] (jr _);have e2:=jCh a (Yf ts[i]);have hd:Yf ts[i]<=1048577:=qN (jxJ _) (qN (qz (jr hi)) hn);have ih':=ih' (max a (Yf ts[i])) (by omega);rw [jyo,ji hi];simp only [je,hlt,jb hi,jf,e1,e2,h5,ih',QQ,Nat.max_assoc]
theorem jsJ:∀t:T,J3 t->tsz t<=1048576->G 108 [tm t]=some (vi (Yf t:Nat),[]):=by
 refine T.ind λt ih hw hs=> ?_;obtain ⟨w1,w2,w3⟩:=(kH t).1 hw;have w3:=(kE _).1 w3;have hn:=Jj t;rw [jU] at hn;have h1:=jnA t.name t.args w2 (by omega) (λu hu=>ih u hu (w3 u hu) (by have:=yL hu;rw [kW] at hs;omega)) 0 (jE _) 0 (by omega);simp only [kj,jP,Nat.zero_max] at h1;rw [jIr,Zi,Nat.add_comm];simp only [je,h1]
def jD (t:T):Bool:=decide (nodes t<=30) && decide (Yf t<=8)
def kY (t:T):Bool:=jD t && yv t
theorem jaL (t:T) (hw:J3 t) (hs:tsz t<=1048576):G 119 [tm t]=some (vb (jD t),[]):=by
 obtain ⟨r,h1,h2,h3,h4⟩:=size_eq t hw hs;have hd:=jxK t hw hs;rw [jIA];by_cases h:nodes t<=30
 .have:(r:Int)<=30:=by have:=h3 h;omega
  have e:decide (((Yf t:Nat):Int)<=8)=decide (Yf t<=8):=by congr 1;exact propext (by omega)
  simp only [je,h1,hd,this,jD,h,e,jI]
 .have:¬(r:Int)<=30:=by have:=h4 (by omega);omega
  simp only [je,h1,this,jD,h,jH]
theorem jle (t:T) (hw:J3 t) (hs:tsz t<=1048576):G 83 [tm t]=some (vb (jD t),[]):=by
 obtain ⟨r,h1,h0,h2,h3,h4⟩:=jCg t hw hs 30 (by decide) (by decide);have hd:=jsJ t hw hs;rw [g83];by_cases h:nodes t<=30
 .have:(r:Int)<=30:=by have:=h3 (by omega);omega
  have e:decide (((Yf t:Nat):Int)<=8)=decide (Yf t<=8):=by congr 1;exact propext (by omega)
  simp only [je,h1,hd,this,jD,h,e,jI]
 .have:¬(r:Int)<=30:=by have:=h4 (by omega);omega
  simp only [je,h1,this,jD,h,jH]
theorem jhj {f:FuncId} {caps:List A} (hsig:K.pureF f=true) (p:T->Bool) (ts:List T) (hl:ts.length<=9223372036854775807) (h:∀t∈ts,G f (tm t::caps)=some (vb (p t),[])) :
  ∃r:Int,G 171 [jQ ts,.fn f caps]=some (vi r,[])/\decide (0<=r)=ts.any p:=by
 have key:=upto (P:=λi=>∃r:Int,jmr (jQ ts) (.fn f caps) (vi (ts.length:Nat)) (vi i)=some (vi r,[])/\decide (0<=r)=(ts.drop i).any p) (n:=ts.length) ?_ ?_ 0 (jE _)
 .obtain ⟨r,h1,h2⟩:=key;simp only [jP,kj] at h1 h2;refine ⟨r,?_,h2⟩;rw [jI5];simp only [je,h1]
 .refine ⟨-1,?_,by simp⟩;rw [jyA];simp only [je]
 .intro i hi ih;obtain ⟨r,h1,h2⟩:=ih;have hlt:(i:Int) < ((ts.length:Nat):Int):=by omega
  have h5:=jq hi hl;have e1:=h ts[i] (jr _);rw [jyA,ji hi,List.any_cons];cases hp:p ts[i]<;>rw [hp] at e1
  .refine ⟨r,?_,by rw [h2,kN]⟩;simp only [je,hlt,jb hi,jf,qt hsig,Jl,KN,e1,h5,h1]
  .refine ⟨i,?_,by simp⟩;simp only [je,hlt,jb hi,jf,qt hsig,Jl,KN,e1]
theorem jbU {f:FuncId} {caps:List A} (hsig:K.pureF f=true) (p:T->Bool) (ts:List T) (hl:ts.length<=9223372036854775807) (h:∀t∈ts,G f (tm t::caps)=some (vb (p t),[])) :
  G 147 [jQ ts,.fn f caps]=some (vb (ts.any p),[]):=by
 obtain ⟨r,h1,h2⟩:=jhj hsig p ts hl h;rw [jIP];simp only [je,h1,h2]
theorem jgA (p:T->Bool) (ts:List T):(ts.any λt=> !p t)=!ts.all p:=by
 induction ts with
 | nil=>rfl
 | cons t ts ih=>rw [List.any_cons,yC,ih];cases p t<;>rfl
theorem jb0:∀t:T,J3 t->G 120 [tm t]=some (vb (yv t),[]):=by
 refine T.ind λt ih hw=> ?_;obtain ⟨w1,w2,w3⟩:=(kH t).1 hw;have w3:=(kE _).1 w3;have e1:=jda t.name w1;have e2:=jb3 t.name w1;have e3:=jbU (f:=148) (caps:=[]) rfl (λu=> !yv u) t.args w2 (λu hu=>by
  have:=ih u hu (w3 u hu);rw [jIQ];simp only [je,this])
 rw [jgA,<-Ke] at e3;rw [jIB,yT];have e4:decide (((t.args.length:Nat):Int)=0)=t.args.isEmpty:=by cases t.args<;>simp;omega
 have e5:decide (((t.args.length:Nat):Int)<=4)=decide (t.args.length<=4):=by congr 1;exact propext (by omega)
 cases hv:jp t.name<;>rw [hv] at e1
 .cases hy:qP t.name<;>rw [hy] at e2
  .simp only [je,e1,e2,jH]
  .cases ha:decide (t.args.length<=4)<;>rw [ha] at e5
   .simp only [je,e1,e2,e5,jH,jI]
   .simp only [je,e1,e2,e5,e3,jI,Bool.not_not]
 .simp only [je,e1,e4]
theorem jdC:∀t:T,J3 t->G 84 [tm t]=some (vb (yv t),[]):=by
 refine T.ind λt ih hw=> ?_;obtain ⟨w1,w2,w3⟩:=(kH t).1 hw;have w3:=(kE _).1 w3;have e1:=zE t.name w1;have e2:=QB t.name w1;have key:=upto (P:=λi=>jtX (vi i) (sv t.name) (jQ t.args)=some (vb (jca (t.args.drop i)),[])) (n:=t.args.length) ?_ ?_ 0 (jE _)
 .simp only [jP,kj] at key;rw [g84,yT];have e4:decide (((t.args.length:Nat):Int)=0)=t.args.isEmpty:=by cases t.args<;>simp;omega
  cases hv:jp t.name<;>rw [hv] at e1
  .cases hy:qP t.name<;>rw [hy] at e2
   .simp only [je,e1,e2,jH]
   .by_cases ha:4 < ((t.args.length:Nat):Int)
    .have:¬t.args.length<=4:=by omega
     simp only [je,e1,e2,ha,this,jH,z8]
    .have:t.args.length<=4:=by omega
     simp only [je,e1,e2,ha,this,key,jI]
  .simp only [je,e1,e4]
 .rw [jDU,j4];simp only [je,jca]
 .intro i hi ih';have hlt:(i:Int) < ((t.args.length:Nat):Int):=by omega
  have h5:=jq hi w2;have e3:=ih t.args[i] (jr _) (w3 _ (jr _));rw [jDU,ji hi,jca];cases hp:yv t.args[i]<;>rw [hp] at e3
  .simp only [je,hlt,jb hi,jf,e3,jH]
  .simp only [je,hlt,jb hi,jf,e3,h5,ih',jI]
theorem jb4 (t:T) (hw:J3 t) (hs:tsz t<=1048576):G 122 [tm t]=some (vb (kY t),[]):=by
 have e1:=jaL t hw hs;have e2:=jb0 t hw;rw [jID,kY];cases h:jD t<;>rw [h] at e1<;>simp only [je,e1,e2,jI,jH]
theorem Zn (t:T) (hw:J3 t) (hs:tsz t<=1048576):G 86 [tm t]=some (vb (kY t),[]):=by
 have e1:=jle t hw hs;have e2:=jdC t hw;rw [g86,kY];cases h:jD t<;>rw [h] at e1<;>simp only [je,e1,e2,jI,jH]
theorem Kf {xs:List Int} {i:Nat} (h:i < xs.length):jh 1 (ints xs) (vi i)=some (.elt (ci xs[i]) 0):=jb h
def jvf (o:Ord') (i:Nat):Bool:=qP (o.syms.getD i []) && (!(o.syms.take i).contains (o.syms.getD i []) && qg o.var 100 (o.ws.getD i 0))
def qe (o:Ord'):Bool:=qg 1 12 (o.syms.length:Nat) && (decide (o.ws.length=o.syms.length) && (qg 1 100 o.var && (List.range o.syms.length).all (jvf o)))
theorem js5 {n i:Nat} (h:i < n):(List.range n).drop i=i::(List.range n).drop (i+1):=by
 have h':i < (List.range n).length:=by simpa using h
 rw [jot h',List.getElem_range]
theorem jp8 (o:Ord') (hw:owf o) (hl:o.ws.length=o.syms.length):∀i,i<=o.syms.length->jmR (vi i) (strs o.syms) (ints o.ws) (vi o.var)=some (vb (((List.range o.syms.length).drop i).all (jvf o)),[]):=by
 refine upto ?_ ?_
 .rw [jzf,jmc (by simp)];simp only [je]
 .intro i hi ih;have hlt:(i:Int) < ((o.syms.length:Nat):Int):=by omega
  have hi2:i < o.ws.length:=by omega
  have h5:=jq hi hw.1.2;have hs:=hw.1.1 o.syms[i] (jr _);have e1:=QB o.syms[i] hs;have hsl:zZ 1 (strs o.syms) none (some (vi i))=some (strs (o.syms.take i)):=by rw [JC (by simp;omega),<-jfm]
  have e2:=jnB (o.syms.take i) o.syms[i] (by rw [qD];exact qN (Nat.min_le_right _ _) hw.1.2)
  have e3:=yb o.ws[i] o.var 100;have hc:jvf o i=(qP o.syms[i] && (!(o.syms.take i).contains o.syms[i] && qg o.var 100 o.ws[i])):=by simp [jvf,qE,hi,hi2]
  rw [jzf,js5 hi,yC,hc];cases h1:qP o.syms[i]<;>rw [h1] at e1
  .simp only [je,hlt,jb hi,e1,jH]
  .cases h2:(o.syms.take i).contains o.syms[i]<;>rw [h2] at e2
   .cases h3:qg o.var 100 o.ws[i]<;>rw [h3] at e3
    .simp only [je,hlt,jb hi,Kf hi2,e1,hsl,e2,e3,jH,jI]
    .simp only [je,hlt,jb hi,Kf hi2,e1,hsl,e2,e3,h5,ih,jI]
   .simp only [je,hlt,jb hi,e1,hsl,e2,jH,jI]
theorem jvG (o:Ord') (hw:owf o):G 241 [od o]=some (vb (qe o),[]):=by
 have e1:=yb (o.syms.length:Nat) 1 12;have e2:=yb o.var 1 100;rw [jJP,qe];cases h1:qg 1 12 (o.syms.length:Nat)<;>rw [h1] at e1
 .simp only [je,e1,jH]
 .by_cases h2:o.ws.length=o.syms.length
  .have h2':((o.ws.length:Nat):Int)=((o.syms.length:Nat):Int):=by rw [h2]
   have key:=jp8 o hw h2 0 (jE _);simp only [jP,kj] at key;cases h3:qg 1 100 o.var<;>rw [h3] at e2
   .simp only [je,e1,h2',e2,jH,z8]
   .simp only [je,e1,h2',h2,e2,key,jI]
  .have h2':¬((o.ws.length:Nat):Int)=((o.syms.length:Nat):Int):=by omega
   simp only [je,e1,h2',h2,jH,jI]
mutual
def K7 (l:List (List UInt8)):T->Bool
 | .mk n us=>(jp n || l.contains n) && YQ l us
def YQ (l:List (List UInt8)):List T->Bool
 | []=>true
 | t::ts=>K7 l t && YQ l ts
end
theorem Kj (l:List (List UInt8)) (t:T):K7 l t=((jp t.name || l.contains t.name) && YQ l t.args):=by cases t;rfl
theorem jaf (l:List (List UInt8)):∀ts,YQ l ts=ts.all (K7 l)
 | []=>rfl
 | t::ts=>by rw [YQ,jaf l ts,yC]
theorem zK {t:T} (h:yv t=true):∀u∈t.args,yv u=true:=by
 rw [yT] at h;intro u hu;split at h
 .rw [jdl.1 h] at hu;cases hu
 .simp only [ju] at h;rw [Ke] at h;exact qm.1 h.2.2 u hu
theorem jqu {t:T} (h:yv t=true):∃c r,t.name=c::r/\jp t.name=upc c/\(upc c=false->qP t.name=true):=by
 rw [yT] at h;cases hn:t.name with
 | nil=>rw [hn] at h;simp [jp,qP] at h
 | cons c r=>
  refine ⟨c,r,rfl,?_,?_⟩
  .rw [hn] at h;cases hu:upc c with
   | false=>simp [jp,hu]
   | true=>
    cases hv:jp (c::r) with
    | true=>rfl
    | false=>
     rw [hv] at h;have:jdD c=false:=by
      simp only [upc,qg,jdD,ju,kG] at hu ⊢;have:¬(97<=(c.toNat:Int)):=by omega
      simp [this]
     simp [qP,this] at h
  .intro hu;rw [hn] at h;have:jp (c::r)=false:=by simp [jp,hu]
   rw [this] at h;simp at h;exact h.1
theorem ZS (t:T) (h:yv t=true):G 123 [tm t]=some (vb (jp t.name),[]):=by
 obtain ⟨c,r,hn,hv,_⟩:=jqu h;have e1:=jaM c;rw [<-hv] at e1;rw [jE9];have hx:yD (sv t.name) (vi 0)=some (vy (c.toNat:Int)):=by rw [hn];exact qJ
 simp only [je,hx,e1]
theorem jp7 (o:Ord') (ho:o.syms.length<=9223372036854775807):∀t:T,J3 t->G 264 [od o,tm t]=some (vb (K7 o.syms t),[]):=by
 refine T.ind λt ih hw=> ?_;obtain ⟨w1,w2,w3⟩:=(kH t).1 hw;have w3:=(kE _).1 w3;have e1:=zE t.name w1;have e2:=jhD o t.name ho;have e2':=jvq t.name o.syms;have key:=upto (P:=λi=>jmV (vi i) (strs o.syms) (ints o.ws) (vi o.var) (sv t.name) (jQ t.args)=some (vb (YQ o.syms (t.args.drop i)),[])) (n:=t.args.length) ?_ ?_ 0 (jE _)
 .simp only [jP,kj] at key;rw [jJ4,Kj];cases hv:jp t.name<;>rw [hv] at e1
  .cases hc:o.syms.contains t.name<;>rw [hc] at e2'
   .simp only [je,e1,e2,e2',kN,jH]
   .simp only [je,e1,e2,e2',key,kN,jI]
  .simp only [je,e1,key,yz,jI]
 .rw [jzl,j4];simp only [je,YQ]
 .intro i hi ih';have hlt:(i:Int) < ((t.args.length:Nat):Int):=by omega
  have h5:=jq hi w2;have e3:=ih t.args[i] (jr _) (w3 _ (jr _));rw [jzl,ji hi,YQ];cases hp:K7 o.syms t.args[i]<;>rw [hp] at e3
  .simp only [je,hlt,jb hi,jf,e3,jH]
  .simp only [je,hlt,jb hi,jf,e3,h5,ih',jI]
def good (o:Ord') (t:T):Bool:=kY t && K7 o.syms t
theorem jlh (o:Ord') (t:T) (ho:o.syms.length<=9223372036854775807) (hw:J3 t) (hs:tsz t<=1048576):G 242 [od o,tm t]=some (vb (good o t),[]):=by
 have e1:=Zn t hw hs;have e2:=jp7 o ho t hw;rw [jJQ,good];cases h:kY t<;>rw [h] at e1<;>simp only [je,e1,e2,jI,jH]
def jhp (o:Ord') (n:List UInt8):Int:=match qF n o.syms with|some k=>o.ws.getD k 0|none=>0
mutual
def wt (o:Ord'):T->Int
 | .mk n us=>(if jp n then o.var else jhp o n)+wtL o us
def wtL (o:Ord'):List T->Int
 | []=>0
 | t::ts=>wt o t+wtL o ts
end
theorem jrG (o:Ord') (t:T):wt o t=(if jp t.name then o.var else jhp o t.name)+wtL o t.args:=by cases t;rfl
theorem QI {o:Ord'} (h:qe o=true):o.ws.length=o.syms.length/\1<=o.var/\o.var<=100/\ ∀i,i < o.syms.length->o.var<=o.ws.getD i 0/\o.ws.getD i 0<=100:=by
 simp only [qe,ju,kG,qg] at h;obtain ⟨_,h2,⟨h3,h4⟩,h5⟩:=h;refine ⟨h2,h3,h4,λi hi=> ?_⟩;have:=qm.1 h5 i (by simpa using hi);simp only [jvf,ju,qg,kG] at this;exact this.2.2
theorem jet {o:Ord'} {n:List UInt8} (h:o.syms.contains n=true):∃k,qF n o.syms=some k/\k < o.syms.length:=by
 rw [<-Qx] at h;obtain ⟨k,hk⟩:=Option.isSome_iff_exists.1 h;exact ⟨k,hk,(jhx hk).1⟩
theorem joi {o:Ord'} (hv:qe o=true) {n:List UInt8} (h:o.syms.contains n=true):jh 1 (ints o.ws) (vi (yA 0 (qF n o.syms)))=some (.elt (ci (jhp o n)) 0)/\1<=jhp o n/\jhp o n<=100:=by
 obtain ⟨k,hk,hlt⟩:=jet h;obtain ⟨h1,h2,h3,h4⟩:=QI hv;have h5:=h4 k hlt;have hlt':k < o.ws.length:=by omega
 have e:jhp o n=o.ws[k]:=by simp [jhp,hk,qE,hlt']
 rw [hk];have e2:yA 0 (some k)=((k:Nat):Int):=by simp [yA]
 rw [e2,Kf hlt',e];have e3:o.ws.getD k 0=o.ws[k]:=by simp [qE,hlt']
 rw [e3] at h5;exact ⟨rfl,by omega,by omega⟩
theorem jcA {o:Ord'} (hv:qe o=true):∀t:T,K7 o.syms t=true->1<=wt o t/\wt o t<=100 * nodes t:=by
 refine T.ind λt ih hc=> ?_;rw [Kj,ju] at hc;obtain ⟨h1,h2,h3,_⟩:=QI hv;have hL:∀ts:List T,(∀u∈ts,1<=wt o u/\wt o u<=100 * nodes u)->0<=wtL o ts/\wtL o ts<=100 * jx ts:=by
  intro ts;induction ts with
  | nil=>intro _;simp [wtL,jx]
  | cons u us ih=>
   intro h;have a:=h u (by simp);have b:=ih λv hv=>h v (by simp [hv]);simp only [wtL,jx];omega
 have hb:=hL t.args λu hu=>ih u hu (by
  have:=hc.2;rw [jaf] at this;exact qm.1 this u hu)
 rw [jrG,jU];cases hn:jp t.name with
 | true=>simp only [Jm];omega
 | false=>
  have hcn:=hc.1;rw [hn,kN] at hcn;have:=(joi hv hcn).2;simp only [Zg,K6];omega
theorem jav {o:Ord'} (hv:qe o=true) {ts:List T} (hc:YQ o.syms ts=true):0<=wtL o ts/\wtL o ts<=100 * jx ts:=by
 induction ts with
 | nil=>simp [wtL,jx]
 | cons u us ih=>
  simp only [YQ,ju] at hc;have a:=jcA hv u hc.1;have b:=ih hc.2;simp only [wtL,jx];omega
theorem jir {l:List (List UInt8)} {ts:List T} (h:YQ l ts=true) (i:Nat):YQ l (ts.drop i)=true:=by
 rw [jaf] at h ⊢;exact qm.2 λu hu=>qm.1 h u (jj9 hu)
theorem KA {l:List (List UInt8)} {ts:List T} (h:YQ l ts=true) {u:T} (hu:u∈ts):K7 l u=true:=by
 rw [jaf] at h;exact qm.1 h u hu
theorem jrF {o:Ord'} (hv:qe o=true) (ts:List T) (hl:ts.length<=9223372036854775807) (hn:jx ts<=1048577) (hc:YQ o.syms ts=true) (ih:∀t∈ts,G 288 [od o,tm t]=some (vi (wt o t),[])) :
  ∀i,i<=ts.length-> ∀a:Int,0<=a->a+wtL o (ts.drop i)<=200000000->jmZ (vi a) (jQ ts) (vi (ts.length:Nat)) (vi i) (strs o.syms) (ints o.ws) (vi o.var)=some (vi (a+wtL o (ts.drop i)),[]):=by
 refine upto ?_ ?_
 .intro a ha hb;rw [jzt,j4];simp only [je,wtL,Int.add_zero]
 .intro i hi ih' a ha hb;have hlt:(i:Int) < ((ts.length:Nat):Int):=by omega
  have h5:=jq hi hl;have e1:=ih ts[i] (jr _);have b1:=jcA hv ts[i] (KA hc (jr _));have b2:=jav hv (jir hc (i+1));rw [ji hi] at hb ⊢;simp only [wtL] at hb ⊢;have hk:ck (a+wt o ts[i])=some (vi (a+wt o ts[i])):=j8 (by omega) (by omega);have ih':=ih' (a+wt o ts[i]) (by omega) (by omega);rw [jzt];simp only [je,hlt,jb hi,jf,e1,hk,h5,ih',Int.add_assoc]
theorem jl6 {o:Ord'} (hv:qe o=true) (ho:o.syms.length<=9223372036854775807):∀t:T,J3 t->tsz t<=1048576->yv t=true->K7 o.syms t=true->G 288 [od o,tm t]=some (vi (wt o t),[]):=by
 refine T.ind λt ih hw hs hk hc=> ?_;obtain ⟨w1,w2,w3⟩:=(kH t).1 hw;have w3:=(kE _).1 w3;have e1:=ZS t hk;have hb:=jcA hv t hc;have hn:=Jj t;rw [jU] at hn;rw [jU] at hb;have hks:=zK hk;rw [yT] at hk;rw [Kj,ju] at hc;rw [jrG] at hb ⊢;rw [jKg];cases hvn:jp t.name<;>rw [hvn] at e1 hc hk hb
 .have hcn:=hc.1;rw [kN] at hcn;obtain ⟨e2,e3,e4⟩:=joi hv hcn;have e5:=jaK o.syms t.name ho;have hbl:=jav hv hc.2;have key:=jrF hv t.args w2 (by omega) hc.2 (λu hu=>ih u hu (w3 u hu) (by have:=yL hu;rw [kW] at hs;omega) (hks u hu) (KA hc.2 hu)) 0 (jE _) (jhp o t.name) (by omega) (by simp only [kj];omega);simp only [jP,kj] at key;simp only [je,e1,e5,e2,key]
 .simp only [Jm] at hk;have:t.args = []:=jdl.1 hk;rw [this];simp only [je,e1,wtL,Int.add_zero]
theorem jkE {o:Ord'} (hv:qe o=true) (n:List UInt8) (ts:List T) (hl:ts.length<=9223372036854775807) (hc:YQ o.syms ts=true) (ih:∀t∈ts,G 266 [od o,tm t]=some (vi (wt o t),[])) :
  ∀i,i<=ts.length-> ∀a:Int,0<=a->a+wtL o (ts.drop i)<=200000000->jib (vi a) (vi i) (strs o.syms) (ints o.ws) (vi o.var) (sv n) (jQ ts)=some (vi (a+wtL o (ts.drop i)),[]):=by
 refine upto ?_ ?_
 .intro a ha hb;rw [jzn,j4];simp only [je,wtL,Int.add_zero]
 .intro i hi ih' a ha hb;have hlt:(i:Int) < ((ts.length:Nat):Int):=by omega
  have h5:=jq hi hl;have e1:=ih ts[i] (jr _);have b1:=jcA hv ts[i] (KA hc (jr _));have b2:=jav hv (jir hc (i+1));rw [ji hi] at hb ⊢;simp only [wtL] at hb ⊢;have hk:ck (a+wt o ts[i])=some (vi (a+wt o ts[i])):=j8 (by omega) (by omega);have ih':=ih' (a+wt o ts[i]) (by omega) (by omega);rw [jzn];simp only [je,hlt,jb hi,jf,e1,hk,h5,ih',Int.add_assoc]
theorem jgP {o:Ord'} (hv:qe o=true) (ho:o.syms.length<=9223372036854775807):∀t:T,J3 t->tsz t<=1048576->K7 o.syms t=true->G 266 [od o,tm t]=some (vi (wt o t),[]):=by
 refine T.ind λt ih hw hs hc=> ?_;obtain ⟨w1,w2,w3⟩:=(kH t).1 hw;have w3:=(kE _).1 w3;have e1:=zE t.name w1;have hb:=jcA hv t hc;have hn:=Jj t;rw [jU] at hn;rw [jU] at hb;obtain ⟨_,v2,v3,_⟩:=QI hv;rw [Kj,ju] at hc;rw [jrG] at hb ⊢;rw [jJ6];have hbl:=jav hv hc.2;have key:=λa h1 h2=>jkE hv t.name t.args w2 hc.2 (λu hu=>ih u hu (w3 u hu) (by have:=yL hu;rw [kW] at hs;omega) (KA hc.2 hu)) 0 (jE _) a h1 h2;simp only [jP,kj] at key;cases hvn:jp t.name<;>rw [hvn] at e1 hc hb
 .have hcn:=hc.1;rw [kN] at hcn;obtain ⟨e2,e3,e4⟩:=joi hv hcn;have e5:=jhD o t.name ho;have key:=key (jhp o t.name) (by omega) (by omega);simp only [je,e1,e5,e2,key]
 .have key:=key o.var (by omega) (by omega);simp only [je,e1,key]
theorem jk8 {o:Ord'} {t:T} (h:good o t=true):yv t=true/\K7 o.syms t=true/\nodes t<=30:=by
 simp only [good,kY,jD,ju,kG] at h;exact ⟨h.1.2,h.2,h.1.1.1⟩
def jFZ (o:Ord') (t:T):A:=if qe o && good o t then .tup [vi (wt o t),vb true] else .tup [vi 0,vb false]
theorem jeU (a b:A):ke 2 (.elt [a,b] 0)=some (.agg [a,b]):=rfl
theorem jeV (a b c:A):ke 3 (.elt [a,b,c] 0)=some (.agg [a,b,c]):=rfl
noncomputable def dq {α:Type} (a b:α):Bool:=@decide (a=b) (Classical.propDecidable _)
theorem Jr {α:Type} {a b:α} :dq a b=true↔a=b:=by unfold dq;exact @jov _ (Classical.propDecidable _)
theorem jiu {α:Type} {a b:α} :dq a b=false↔ ¬a=b:=by unfold dq;exact @Yc _ (Classical.propDecidable _)
theorem Qw {α:Type} (a:α):dq a a=true:=Jr.2 rfl
theorem jhv {α:Type} (a b:α) (l r:List α):dq (a::l) (b::r)=(dq a b && dq l r):=by
 rw [jj8,ju,Jr,Jr,Jr,Ju]
theorem jE2 (s t:T):dq s t=(decide (s.name=t.name) && dq s.args t.args):=by
 cases s with
 | mk n us=>cases t with
  | mk m vs=>rw [jj8,ju,Jr,Jr,jov,T.mk.injEq];rfl
theorem jnh {α:Type} {a b:List α} (h:¬a.length=b.length):dq a b=false:=jiu.2 λe=>h (by rw [e])
theorem jhi (ts us:List T) (hl:ts.length<=9223372036854775807) (hlen:ts.length=us.length) (ih:∀t∈ts,∀u∈us,G 77 [tm t,tm u]=some (vb (dq t u),[])) :
  ∀i,i<=ts.length->jmg (jQ us) (.fn 77 []) (jQ ts) (vi (ts.length:Nat)) (vi i)=some (vb (dq (ts.drop i) (us.drop i)),[]):=by
 refine upto ?_ ?_
 .rw [jyl,j4,hlen,j4,Qw];simp only [je]
 .intro i hi ih';have hlt:(i:Int) < ((ts.length:Nat):Int):=by omega
  have hi2:i < us.length:=by omega
  have h5:=jq hi hl;have e1:=ih ts[i] (jr _) us[i] (jr _);rw [jyl,ji hi,ji hi2,jhv];cases hp:dq ts[i] us[i]<;>rw [hp] at e1
  .simp only [je,hlt,jb hi,jb hi2,jf,qt (f:=77) rfl,y8,e1,jH]
  .simp only [je,hlt,jb hi,jb hi2,jf,qt (f:=77) rfl,y8,e1,h5,ih',jI]
theorem zw:∀s:T,J3 s-> ∀t:T,J3 t->G 77 [tm s,tm t]=some (vb (dq s t),[]):=by
 refine T.ind λs ih hw t hw'=> ?_;obtain ⟨w1,w2,w3⟩:=(kH s).1 hw;have w3:=(kE _).1 w3;obtain ⟨v1,v2,v3⟩:=(kH t).1 hw';have v3:=(kE _).1 v3;rw [g77,jE2];by_cases hn:s.name=t.name
 .have e:G 103 [jQ s.args,jQ t.args,.fn 77 []]=some (vb (dq s.args t.args),[]):=by
   rw [jIn];by_cases hlen:s.args.length=t.args.length
   .have key:=jhi s.args t.args w2 hlen (λa ha b hb=>ih a ha (w3 a ha) b (v3 b hb)) 0 (jE _);simp only [jP,kj] at key;rw [hlen] at key;simp only [je,hlen,key]
   .have hlen':¬((s.args.length:Nat):Int)=((t.args.length:Nat):Int):=by omega
    simp only [je,hlen',jnh hlen]
  simp only [je,hn,e,jI]
 .simp only [je,hn,jH]
theorem jp4 (n m:List UInt8) (ts us:List T) (hl:ts.length<=9223372036854775807) (hlen:ts.length=us.length) (ih:∀t∈ts,∀u∈us,G 63 [tm t,tm u]=some (vb (dq t u),[])) :
  ∀i,i<=ts.length->jtV (vi i) (sv n) (jQ ts) (sv m) (jQ us)=some (vb (dq (ts.drop i) (us.drop i)),[]):=by
 refine upto ?_ ?_
 .rw [jDP,j4,hlen,j4,Qw];simp only [je,hlen]
 .intro i hi ih';have hlt:(i:Int) < ((ts.length:Nat):Int):=by omega
  have hi2:i < us.length:=by omega
  have h5:=jq hi hl;have e1:=ih ts[i] (jr _) us[i] (jr _);rw [jDP,ji hi,ji hi2,jhv];cases hp:dq ts[i] us[i]<;>rw [hp] at e1
  .simp only [je,hlt,jb hi,jb hi2,jf,e1,jH]
  .simp only [je,hlt,jb hi,jb hi2,jf,e1,h5,ih',jI]
theorem qo:∀s:T,J3 s-> ∀t:T,J3 t->G 63 [tm s,tm t]=some (vb (dq s t),[]):=by
 refine T.ind λs ih hw t hw'=> ?_;obtain ⟨w1,w2,w3⟩:=(kH s).1 hw;have w3:=(kE _).1 w3;obtain ⟨v1,v2,v3⟩:=(kH t).1 hw';have v3:=(kE _).1 v3;rw [g63,jE2];by_cases hn:s.name=t.name
 .by_cases hlen:s.args.length=t.args.length
  .have key:=jp4 t.name t.name s.args t.args w2 hlen (λa ha b hb=>ih a ha (w3 a ha) b (v3 b hb)) 0 (jE _);simp only [jP,kj] at key;simp only [je,hn,hlen,key,jI]
  .have hlen':¬((s.args.length:Nat):Int)=((t.args.length:Nat):Int):=by omega
   simp only [je,hn,hlen',jnh hlen,z8]
 .simp only [je,hn,jH]
def rk (o:Ord') (t:T):Int:=yA 0 (qF t.name o.syms)
def jby (a b:Int):Int:=if a < b then -1 else if b < a then 1 else 0
def yl (o:Ord') (s t:T):Int:=if rk o s=rk o t then jby (s.args.length:Nat) (t.args.length:Nat) else jby (rk o s) (rk o t)
theorem jCI (o:Ord') (s t:T) (ho:o.syms.length<=9223372036854775807):G 267 [od o,tm s,tm t]=some (vi (yl o s t),[]):=by
 have e1:=jhD o s.name ho;have e2:=jhD o t.name ho;rw [jJ7];by_cases h:rk o s=rk o t
 .have h':yA 0 (qF s.name o.syms)=yA 0 (qF t.name o.syms):=h;by_cases h1:((s.args.length:Nat):Int) < ((t.args.length:Nat):Int)
  .simp only [je,e1,e2,h',yl,rk,jby,h1]
  .by_cases h2:((t.args.length:Nat):Int) < ((s.args.length:Nat):Int)
   .simp only [je,e1,e2,h',yl,rk,jby,h1,h2]
   .simp only [je,e1,e2,h',yl,rk,jby,h1,h2]
 .have h':¬yA 0 (qF s.name o.syms)=yA 0 (qF t.name o.syms):=h;by_cases h1:yA 0 (qF s.name o.syms) < yA 0 (qF t.name o.syms)
  .simp only [je,e1,e2,h',yl,rk,jby,h1]
  .by_cases h2:yA 0 (qF t.name o.syms) < yA 0 (qF s.name o.syms)
   .simp only [je,e1,e2,h',yl,rk,jby,h1,h2]
   .simp only [je,e1,e2,h',yl,rk,jby,h1,h2]
theorem jqO (o:Ord') (s t:T) (ho:o.syms.length<=9223372036854775807):G 289 [od o,tm s,tm t]=some (vb (decide (yl o s t < 0)),[]):=by
 have e1:=jaK o.syms s.name ho;have e2:=jaK o.syms t.name ho;rw [jKh];by_cases h:rk o s=rk o t
 .have h':yA 0 (qF s.name o.syms)=yA 0 (qF t.name o.syms):=h;by_cases h1:((s.args.length:Nat):Int) < ((t.args.length:Nat):Int)
  .simp only [je,e1,e2,h',yl,rk,jby,h1]
  .by_cases h2:((t.args.length:Nat):Int) < ((s.args.length:Nat):Int)
   .simp only [je,e1,e2,h',yl,rk,jby,h1,h2];rfl
   .simp only [je,e1,e2,h',yl,rk,jby,h1,h2]
 .have h':¬yA 0 (qF s.name o.syms)=yA 0 (qF t.name o.syms):=h;by_cases h1:yA 0 (qF s.name o.syms) < yA 0 (qF t.name o.syms)
  .simp only [je,e1,e2,h',yl,rk,jby,h1]
  .have h2:yA 0 (qF t.name o.syms) < yA 0 (qF s.name o.syms):=by omega
   simp only [je,e1,e2,h',yl,rk,jby,h1,h2];rfl
noncomputable def fd:List T->List T->Option (T × T)
 | a::l,b::r=>if dq a b=true then fd l r else some (a,b)
 | _,_=>none
theorem jnk:∀ {l r:List T} {a b:T},fd l r=some (a,b)->a∈l/\b∈r
 | [],_,_,_,h=>by simp [fd] at h
 | _::_,[],_,_,h=>by simp [fd] at h
 | x::l,y::r,a,b,h=>by
  simp only [fd] at h;split at h
  .have:=jnk h;exact ⟨by simp [this.1],by simp [this.2]⟩
  .cases h;exact ⟨by simp,by simp⟩
theorem jx4 (s t:T) (hw:J3 s) (hw':J3 t) (hlen:s.args.length=t.args.length) :
  (fd s.args t.args=none/\G 268 [tm s,tm t]=some (vi (-1),[]))\/ ∃(k:Nat) (h1:k < s.args.length) (h2:k < t.args.length),fd s.args t.args=some (s.args[k],t.args[k])/\G 268 [tm s,tm t]=some (vi k,[]):=by
 obtain ⟨w1,w2,w3⟩:=(kH s).1 hw;have w3:=(kE _).1 w3;obtain ⟨v1,v2,v3⟩:=(kH t).1 hw';have v3:=(kE _).1 v3;have key:=upto (P:=λi=>(fd (s.args.drop i) (t.args.drop i)=none/\jic (vi i) (sv s.name) (jQ s.args) (sv t.name) (jQ t.args)=some (vi (-1),[]))\/ ∃(k:Nat) (h1:k < s.args.length) (h2:k < t.args.length),fd (s.args.drop i) (t.args.drop i)=some (s.args[k],t.args[k])/\jic (vi i) (sv s.name) (jQ s.args) (sv t.name) (jQ t.args)=some (vi k,[])) (n:=s.args.length) ?_ ?_ 0 (jE _)
 .simp only [jP,kj] at key;rw [jJ8];rcases key with ⟨h1,h2⟩|⟨k,h1,h2,h3,h4⟩
  .exact Or.inl ⟨h1,by simp only [je,h2]⟩
  .exact Or.inr ⟨k,h1,h2,h3,by simp only [je,h4]⟩
 .left;rw [jzo,j4];refine ⟨by simp [fd],?_⟩;simp only [je]
 .intro i hi ih;have hlt:(i:Int) < ((s.args.length:Nat):Int):=by omega
  have hi2:i < t.args.length:=by omega
  have h5:=jq hi w2;have e1:=qo s.args[i] (w3 _ (jr _)) t.args[i] (v3 _ (jr _));rw [jzo,ji hi,ji hi2,fd];cases hp:dq s.args[i] t.args[i]<;>rw [hp] at e1
  .refine Or.inr ⟨i,hi,hi2,by simp,?_⟩;simp only [je,hlt,jb hi,jb hi2,jf,e1]
  .simp only [je,hlt,jb hi,jb hi2,jf,e1,h5];exact ih
def zT:A:= .agg [sv [],.sl 2 []]
noncomputable def fdR (s t:T):A:=match fd s.args t.args with|some (a,b)=> .tup [tm a,tm b,vb true]|none=> .tup [zT,zT,vb false]
theorem jez (s t:T) (hw:J3 s) (hw':J3 t) (hn:s.name=t.name) (hlen:s.args.length=t.args.length):G 290 [tm s,tm t]=some (fdR s t,[]):=by
 obtain ⟨w1,w2,w3⟩:=(kH s).1 hw;have w3:=(kE _).1 w3;obtain ⟨v1,v2,v3⟩:=(kH t).1 hw';have v3:=(kE _).1 v3;have key:=upto (P:=λi=>jm0 (jQ s.args) (vi (s.args.length:Nat)) (vi i) (sv t.name) (jQ t.args) (sv []) (sv []) [] []=some ((match fd (s.args.drop i) (t.args.drop i) with|some (a,b)=> .tup [tm a,tm b,vb true]|none=> .tup [zT,zT,vb false]),[])) (n:=s.args.length) ?_ ?_ 0 (jE _)
 .simp only [jP,kj] at key;rw [jG2,fdR];simp only [hlen] at key;simp only [je,hn,hlen,key]
 .rw [jzu,j4];simp only [je,fd,zT]
 .intro i hi ih;have hlt:(i:Int) < ((s.args.length:Nat):Int):=by omega
  have hi2:i < t.args.length:=by omega
  have h5:=jq hi w2;have e1:=zw s.args[i] (w3 _ (jr _)) t.args[i] (v3 _ (jr _));rw [jzu,ji hi,ji hi2,fd];cases hp:dq s.args[i] t.args[i]<;>rw [hp] at e1
  .simp only [je,hlt,jb hi,jb hi2,jf,e1]
  .simp only [je,hlt,jb hi,jb hi2,jf,e1,h5,ih]
theorem jeA (s t:T) (h:¬(s.name=t.name/\s.args.length=t.args.length)):G 290 [tm s,tm t]=some (.tup [zT,zT,vb false],[]):=by
 rw [jG2];by_cases hn:s.name=t.name
 .have hlen':¬((s.args.length:Nat):Int)=((t.args.length:Nat):Int):=λe=>h ⟨hn,by omega⟩;simp only [je,hn,hlen',zT]
 .simp only [je,hn,zT]
noncomputable def jvP (o:Ord'):Nat->T->T->Bool
 | 0,_,_=>false
 | n+1,s,t=>if jp s.name then false else if (s.args.any λa=>dq a t || jvP o n a t) then true else if jp t.name then false
   else if (t.args.any λb=> !jvP o n s b) then false else if 0 < yl o s t then true else if yl o s t < 0 then false
   else match fd s.args t.args with|some (a,b)=>jvP o n a b|none=>false
theorem jFS {o:Ord'} {s t:T} (h1:o.syms.contains s.name=true) (h2:o.syms.contains t.name=true) (h:rk o s=rk o t):s.name=t.name:=by
 obtain ⟨k,hk,_⟩:=jet h1;obtain ⟨j,hj,_⟩:=jet h2;have a1:=(jhx hk).2;have a2:=(jhx hj).2;simp only [rk,hk,hj,yA,Jg] at h;have:k=j:=by omega
 subst this;rw [a1] at a2;exact ZE a2
theorem jtf (o:Ord') (s t:T):yl o t s = - yl o s t:=by
 unfold yl;by_cases h:rk o s=rk o t
 .rw [jl h,jl h.symm];unfold jby;split<;>split<;>(try split)<;>omega
 .rw [jo h,jo (Ne.symm h)];unfold jby;split<;>split<;>(try split)<;>omega
def jbS (e g l:Bool):Int:=if e then 1 else if g then 2 else if l then 3 else 0
theorem jvF (e g l:Bool):G 243 [vb e,vb g,vb l]=some (vi (jbS e g l),[]):=by
 rw [jJR];cases e<;>cases g<;>cases l<;>simp only [je,jbS]
theorem jjh {f g:FuncId} {caps caps':List A} (hf:K.pureF f=true) (hg:K.pureF g=true) (e gr le:Bool) (h1:G f caps=some (vb gr,[])) (h2:G g caps'=some (vb le,[])) :
  G 255 [vb e,.fn f caps,.fn g caps']=some (vi (jbS e gr le),[]):=by
 rw [jJ0];cases e<;>cases gr<;>cases le<;>simp only [je,qt hf,qt hg,KN,h1,h2,jbS]
noncomputable def jEZ (o:Ord') (s t:T):Int:=jbS (dq s t) (jvP o (nodes s+nodes t) s t) (jvP o (nodes s+nodes t) t s)
noncomputable def jE1 (o:Ord') (s t:T):A:=if qe o && (good o s && good o t) then .tup [vi (jEZ o s t),vb true] else .tup [vi 0,vb false]
theorem jqb {left:Int} {n:Nat} (h0:0<=left) (h1:left<=1048576) (h:¬kA left (n:Int) < 0):0<=kA left (n:Int)/\kA left (n:Int)<=1048576/\n<=1048576:=by
 unfold kA at h ⊢;split at h
 .rename_i hc;rw [jl hc];omega
 .exact absurd juA h
mutual
def kT:T->List (List UInt8)
 | .mk n us=>if jp n then [n] else yy us
def yy:List T->List (List UInt8)
 | []=>[]
 | t::ts=>kT t++yy ts
end
theorem Qd (t:T):kT t=if jp t.name then [t.name] else yy t.args:=by cases t;rfl
theorem Kl {n:Nat} (h:n<=4000000):jW n 16=true:=by
 unfold jW;simp;omega
def jd2 (l:List (List UInt8)) (vs:List (List UInt8)) (k:Nat) (r:List (List UInt8)):Prop:=(∀n,n∈r↔n∈l\/n∈vs)/\r.length<=l.length+k
theorem jkw (ts:List T) (hl:ts.length<=9223372036854775807) (hn:jx ts<=1048577) (ih:∀t∈ts,∀l:List (List UInt8),l.length+nodes t<=2100000-> ∃r,jgv (sv t.name) (jQ t.args) (l.map cs)=some (.top,[strs r])/\jd2 l (kT t) (nodes t) r) :
  ∀i,i<=ts.length-> ∀l:List (List UInt8),l.length+jx (ts.drop i)<=2100000-> ∃r,jeh (jQ ts) (vi (ts.length:Nat)) (vi i) (l.map cs)=some (.top,[strs r])/\jd2 l (yy (ts.drop i)) (jx (ts.drop i)) r:=by
 refine upto ?_ ?_
 .intro l hb;rw [jeM,j4];refine ⟨l,?_,by simp [yy],by omega⟩;simp only [je]
 .intro i hi ih' l hb;have hlt:(i:Int) < ((ts.length:Nat):Int):=by omega
  have h5:=jq hi hl;rw [ji hi] at hb ⊢;simp only [jx,yy] at hb ⊢;obtain ⟨r1,e1,c1,c2⟩:=ih ts[i] (jr _) l (by omega);obtain ⟨r2,e2,d1,d2⟩:=ih' r1 (by omega);rw [jeM];refine ⟨r2,?_,?_,by omega⟩
  .simp only [je,hlt,jb hi,jf,e1,h5,e2]
  .intro n;rw [d1,c1,zh];exact jbq
theorem jsj:∀t:T,J3 t->yv t=true->nodes t<=1048577-> ∀l:List (List UInt8),l.length+nodes t<=2100000-> ∃r,jgv (sv t.name) (jQ t.args) (l.map cs)=some (.top,[strs r])/\jd2 l (kT t) (nodes t) r:=by
 refine T.ind λt ih hw hk hn l hb=> ?_;obtain ⟨w1,w2,w3⟩:=(kH t).1 hw;have w3:=(kE _).1 w3;have hks:=zK hk;have e1:=ZS t hk;rw [jDk,Qd];have hpos:=qH t;rw [jU] at hn hb ⊢;cases hv:jp t.name<;>rw [hv] at e1
 .
  have ih':∀u∈t.args,∀l:List (List UInt8),l.length+nodes u<=2100000-> ∃r,jgv (sv u.name) (jQ u.args) (l.map cs)=some (.top,[strs r])/\jd2 l (kT u) (nodes u) r:=λu hu=>ih u hu (w3 u hu) (hks u hu) (by have:=qz hu;omega)
  have loop:=jkw t.args w2 (by omega) ih';have start:∃r,jeg (jQ t.args) (vi (t.args.length:Nat)) (vi 0) (l.map cs)=some (.top,[strs r])/\jd2 l (yy t.args) (jx t.args) r:=by
   rw [juv];by_cases h0:t.args.length=0
   .have ha:t.args = []:=jhc.1 h0;rw [ha];refine ⟨l,?_,by simp [yy],by simp [jx]⟩;simp only [je];rfl
   .have hi:0 < t.args.length:=by omega
    have hlt:(0:Int) < ((t.args.length:Nat):Int):=by omega
    have hix:jh 2 (jQ t.args) (vi 0)=some (.elt (jm t.args[0]) 0):=jb (i:=0) hi;have h5:jz .add false (vi 0) (vi 1)=some (vi ((1:Nat):Int)):=by rw [KZ,j8 (by decide) (by decide)];rfl
    have hd:t.args=t.args[0]::t.args.drop 1:=by have:=ji hi;simpa using this
    have hns:jx t.args=nodes t.args[0]+jx (t.args.drop 1):=by conv=>lhs;rw [hd,jx]
    have hvs:yy t.args=kT t.args[0]++yy (t.args.drop 1):=by conv=>lhs;rw [hd,yy]
    obtain ⟨r1,e1,c1,c2⟩:=ih' t.args[0] (jr _) l (by omega);obtain ⟨r2,e2,d1,d2⟩:=loop 1 (by omega) r1 (by omega);refine ⟨r2,?_,?_,by omega⟩
    .simp only [je,hlt,hix,jf,e1,h5,e2]
    .intro n;rw [d1,c1,hvs,zh];exact jbq
  obtain ⟨r,e2,d1,d2⟩:=start;refine ⟨r,?_,by simpa using d1,by omega⟩;cases h0:decide (((t.args.length:Nat):Int)=0)
  .simp only [je,h0,e2]
  .simp only [je,h0,e1,e2]
 .have ha:t.args = []:=by
   rw [yT,hv] at hk;simpa using hk
  have h0:decide (((t.args.length:Nat):Int)=0)=true:=by rw [ha];rfl
  have e3:=ZF l t.name (by omega);cases hc:l.contains t.name<;>rw [hc] at e3
  .have hf:jW (l.length+1) 16=true:=Kl (by omega);refine ⟨l++[t.name],?_,by simp,by simp⟩;have happ:kq (l.map cs) [[sv t.name]]=(l++[t.name]).map cs:=by simp [kq]
   simp only [je,h0,e1,e3,hf,happ]
  .refine ⟨l,?_,λn=>⟨λh=>Or.inl h,λh=>by
    rcases h with h|h
    .exact h
    .simp at h;subst h;simpa using hc⟩,by omega⟩
   simp only [je,h0,e1,e3]
theorem jff (t:T) (hw:J3 t) (hk:yv t=true) (hn:nodes t<=1048577):∃r,G 287 [tm t]=some (strs r,[])/\(∀n,n∈r↔n∈kT t)/\r.length<=9223372036854775807:=by
 obtain ⟨r,e1,c1,c2⟩:=jsj t hw hk hn [] (by simp;omega)
 have e2:jhP (r.map cs)=some (.top,[strs (y5 r)]):=by
  rw [jxt];simp only [jlS,jdU];rw [jl (by simp at c2;omega)]
 refine ⟨y5 r,?_,λn=> ?_,by simp [y5];simp at c2;omega⟩
 .rw [jKf];simp only [ya] at e1;simp only [je,e1,e2]
 .unfold y5;rw [List.mem_mergeSort,c1];simp
mutual
def cnt (n:List UInt8):T->Nat
 | .mk m us=>(if m=n then 1 else 0)+Yk n us
def Yk (n:List UInt8):List T->Nat
 | []=>0
 | t::ts=>cnt n t+Yk n ts
end
theorem jfP (n:List UInt8) (t:T):cnt n t=(if t.name=n then 1 else 0)+Yk n t.args:=by cases t;rfl
theorem jE0 (n:List UInt8):∀t:T,cnt n t<=nodes t:=by
 refine T.ind λt ih=> ?_;have:∀ts:List T,(∀u∈ts,cnt n u<=nodes u)->Yk n ts<=jx ts:=by
  intro ts;induction ts with
  | nil=>intro _;simp [Yk]
  | cons u us ih=>
   intro h;have h1:=h u (by simp);have h2:=ih λv hv=>h v (by simp [hv]);simp only [Yk,jx];omega
 have h:=this t.args ih;rw [jfP,jU];split<;>omega
theorem jt8 (n:List UInt8) (ts:List T):Yk n ts<=jx ts:=by
 induction ts with
 | nil=>simp [Yk]
 | cons u us ih=>have:=jE0 n u;simp only [Yk,jx];omega
theorem jiq (n:List UInt8) (ts:List T) (hl:ts.length<=9223372036854775807) (hn:jx ts<=1048577) (ih:∀t∈ts,G 271 [tm t,sv n]=some (vi (cnt n t:Nat),[])) :
  ∀i,i<=ts.length-> ∀a:Nat,a+Yk n (ts.drop i)<=1048579->jid (sv n) (vi a) (jQ ts) (vi (ts.length:Nat)) (vi i)=some (vi ((a+Yk n (ts.drop i):Nat):Int),[]):=by
 refine upto ?_ ?_
 .intro a ha;rw [jzr,j4];simp only [je,Yk,j6]
 .intro i hi ih' a ha;have hlt:(i:Int) < ((ts.length:Nat):Int):=by omega
  have h5:=jq hi hl;have e1:=ih ts[i] (jr _);rw [ji hi] at ha ⊢;simp only [Yk] at ha ⊢;have hk:ck ((a:Int)+((cnt n ts[i]:Nat):Int))=some (vi ((a+cnt n ts[i]:Nat):Int)):=by rw [j8 (by omega) (by omega)];rfl
  have ih':=ih' (a+cnt n ts[i]) (by omega);rw [jzr];simp only [je,hlt,jb hi,jf,e1,hk,h5,ih',Q3]
theorem KU (n:List UInt8):∀t:T,J3 t->nodes t<=1048577->G 271 [tm t,sv n]=some (vi (cnt n t:Nat),[]):=by
 refine T.ind λt ih hw hn=> ?_;obtain ⟨w1,w2,w3⟩:=(kH t).1 hw;have w3:=(kE _).1 w3;rw [jU] at hn;have hc:=jt8 n t.args;have key:=λa h=>jiq n t.args w2 (by omega) (λu hu=>ih u hu (w3 u hu) (by have:=qz hu;omega)) 0 (jE _) a h;simp only [jP,kj] at key;rw [jKb,jfP];by_cases h:t.name=n
 .have key:=key 1 (by omega);simp only [jkg] at key;simp only [je,h,key]
 .have key:=key 0 (by omega);simp only [jP] at key;simp only [je,h,key]
theorem jnz (m n:List UInt8) (ts:List T) (hl:ts.length<=9223372036854775807) (hn:jx ts<=1048577) (ih:∀t∈ts,G 293 [tm t,sv n]=some (vi (cnt n t:Nat),[])) :
  ∀i,i<=ts.length-> ∀a:Nat,a+Yk n (ts.drop i)<=1048579->jif (sv n) (vi a) (vi i) (sv m) (jQ ts)=some (vi ((a+Yk n (ts.drop i):Nat):Int),[]):=by
 refine upto ?_ ?_
 .intro a ha;rw [jzw,j4];simp only [je,Yk,j6]
 .intro i hi ih' a ha;have hlt:(i:Int) < ((ts.length:Nat):Int):=by omega
  have h5:=jq hi hl;have e1:=ih ts[i] (jr _);rw [ji hi] at ha ⊢;simp only [Yk] at ha ⊢;have hk:ck ((a:Int)+((cnt n ts[i]:Nat):Int))=some (vi ((a+cnt n ts[i]:Nat):Int)):=by rw [j8 (by omega) (by omega)];rfl
  have ih':=ih' (a+cnt n ts[i]) (by omega);rw [jzw];simp only [je,hlt,jb hi,jf,e1,hk,h5,ih',Q3]
theorem jiU (n:List UInt8):∀t:T,J3 t->nodes t<=1048577->G 293 [tm t,sv n]=some (vi (cnt n t:Nat),[]):=by
 refine T.ind λt ih hw hn=> ?_;obtain ⟨w1,w2,w3⟩:=(kH t).1 hw;have w3:=(kE _).1 w3;rw [jU] at hn;have hc:=jt8 n t.args;have key:=λa h=>jnz t.name n t.args w2 (by omega) (λu hu=>ih u hu (w3 u hu) (by have:=qz hu;omega)) 0 (jE _) a h;simp only [jP,kj] at key;rw [jKj,jfP];by_cases h:t.name=n
 .have key:=key 1 (by omega);simp only [jkg] at key;rw [h] at key;simp only [je,h,key]
 .have key:=key 0 (by omega);simp only [jP] at key;simp only [je,h,key]
theorem jzx (l:List (List UInt8)) (s:List UInt8) (hl:l.length<=2100000):∃r,G 240 [strs l,sv s]=some (strs r,[])/\jd2 l [s] 1 r:=by
 have key:=upto (P:=λi=>∃r,jh8 (strs l) (sv s) (vi i)=some (strs r,[])/\jd2 l [s] 1 r) (n:=l.length) ?_ ?_ 0 (jE _)
 .simp only [jP] at key;rw [jGY];exact key
 .have hx:¬((l.length:Nat):Int) < ((l.length:Nat):Int):=Int.lt_irrefl _;have s1:zZ 1 (strs l) none (some (vi (l.length:Nat)))=some (strs l):=by rw [JC (by simp),ql (by simp)]
  have s2:zZ 1 (strs l) (some (vi (l.length:Nat))) none=some (.sl 1 []):=by rw [yZ (by simp),jmc (by simp)]
  have f1:jW l.length 16=true:=Kl (by omega);have f2:jW (l.length+1) 16=true:=Kl (by omega);have happ:kq (kq (l.map cs) [[sv s]]) []=(l++[s]).map cs:=by simp [kq]
  have hlen:(kq (l.map cs) [[sv s]]).length=l.length+1:=by simp [kq]
  refine ⟨l++[s],?_,by intro n;simp,by simp⟩
  rw [jnx];simp only [je,hx,s1,s2,f1,f2,hlen,happ,j6]
 .intro i hi ih;have hlt:(i:Int) < ((l.length:Nat):Int):=by omega
  have h5:=jq hi (by omega);rw [jnx];cases h1:yQ l[i] s
  .by_cases h2:l[i]=s
   .refine ⟨l,?_,λn=>⟨λh=>Or.inl h,λh=>by
     rcases h with h|h
     .exact h
     .simp at h;rw [h,<-h2];exact jr _⟩,by omega⟩
    rw [h2] at h1;simp only [je,hlt,jb hi,h2,h1]
   .have s1:zZ 1 (strs l) none (some (vi i))=some (strs (l.take i)):=by rw [JC (by simp;omega),<-jfm]
    have s2:zZ 1 (strs l) (some (vi i)) none=some (strs (l.drop i)):=by rw [yZ (by simp;omega),<-jfl]
    have ht:(l.take i).length=i:=by rw [qD];omega
    have f1:jW i 16=true:=Kl (by omega);have f2:jW (i+1) 16=true:=Kl (by omega);have f3:jW (i+1+(l.drop i).length) 16=true:=Kl (by rw [qS];omega);have happ:kq (kq ((l.take i).map cs) [[sv s]]) ((l.drop i).map cs)=(l.take i++[s]++l.drop i).map cs:=by simp [kq]
    have hlen:(kq ((l.take i).map cs) [[sv s]]).length=i+1:=by simp [kq];omega
    refine ⟨l.take i++[s]++l.drop i,?_,λn=> ?_,by simp;omega⟩
    .simp only [je,hlt,jb hi,h1,h2,s1,s2,ht,f1,f2,f3,hlen,happ]
    .have hm:n∈l↔n∈l.take i\/n∈l.drop i:=by rw [<-zh,Ql]
     simp only [zh,zi,hm];exact ⟨λh=>by rcases h with (h|h)|h<;>simp [h],λh=>by rcases h with (h|h)|h<;>simp [h]⟩
  .obtain ⟨r,e,c⟩:=ih;refine ⟨r,?_,c⟩;simp only [je,hlt,jb hi,h1,h5,e]
theorem jvA:∀t:T,J3 t-> ∀l:List (List UInt8),l.length+nodes t<=2100000-> ∃r,G 262 [strs l,tm t]=some (strs r,[])/\jd2 l (kT t) (nodes t) r:=by
 refine T.ind λt ih hw l hb=> ?_;obtain ⟨w1,w2,w3⟩:=(kH t).1 hw;have w3:=(kE _).1 w3;have e1:=zE t.name w1;rw [jJ2,Qd];rw [jU] at hb ⊢;cases hv:jp t.name<;>rw [hv] at e1
 .have key:=upto (P:=λi=>∀l:List (List UInt8),l.length+jx (t.args.drop i)<=2100000-> ∃r,jmT (strs l) (vi i) (sv t.name) (jQ t.args)=some (strs r,[])/\jd2 l (yy (t.args.drop i)) (jx (t.args.drop i)) r) (n:=t.args.length) ?_ ?_ 0 (jE _)
  .simp only [jP,kj] at key;obtain ⟨r,e,c1,c2⟩:=key l (by omega);refine ⟨r,?_,by simpa using c1,by omega⟩;simp only [je,e1,e]
  .intro l hb;rw [jzi,j4];refine ⟨l,?_,by simp [yy],by omega⟩;simp only [je]
  .intro i hi ih' l hb;have hlt:(i:Int) < ((t.args.length:Nat):Int):=by omega
   have h5:=jq hi w2;rw [ji hi] at hb ⊢;simp only [jx,yy] at hb ⊢;obtain ⟨r1,a1,c1,c2⟩:=ih t.args[i] (jr _) (w3 _ (jr _)) l (by omega);obtain ⟨r2,a2,d1,d2⟩:=ih' r1 (by omega);rw [jzi];refine ⟨r2,?_,?_,by omega⟩
   .simp only [je,hlt,jb hi,jf,a1,h5,a2]
   .intro n;rw [d1,c1,zh];exact jbq
 .obtain ⟨r,e,c1,c2⟩:=jzx l t.name (by omega);refine ⟨r,?_,by simpa using c1,by omega⟩;simp only [je,e1,e]
theorem jlf (t:T) (hw:J3 t) (hn:nodes t<=1048577):∃r,G 237 [tm t]=some (strs r,[])/\(∀n,n∈r↔n∈kT t)/\r.length<=9223372036854775807:=by
 obtain ⟨r,e,c1,c2⟩:=jvA t hw [] (by simp;omega)
 have e:G 262 [.sl 1 [],tm t]=some (strs r,[]):=e;refine ⟨r,?_,λn=>by rw [c1];simp,by simp at c2;omega⟩;rw [jJN];simp only [je,e]
def bal (s t:T):Bool:=(kT t).all λn=>decide (cnt n t<=cnt n s)
theorem jxq {r:List (List UInt8)} {s t:T} (h:∀n,n∈r↔n∈kT t):(r.all λn=>decide (cnt n t<=cnt n s))=bal s t:=by
 unfold bal;rw [jj8,qm,qm];exact ⟨λa n hn=>a n ((h n).2 hn),λa n hn=>a n ((h n).1 hn)⟩
theorem jo5 (s t:T) (hw:J3 s) (hw':J3 t) (hs:nodes s<=1048577) (ht:nodes t<=1048577):G 265 [tm s,tm t]=some (vb (bal s t),[]):=by
 obtain ⟨r,e,c1,c2⟩:=jlf t hw' ht;have key:=upto (P:=λi=>jmW (strs r) (vi i) (sv s.name) (jQ s.args) (sv t.name) (jQ t.args)=some (vb ((r.drop i).all λn=>decide (cnt n t<=cnt n s)),[])) (n:=r.length) ?_ ?_ 0 (jE _)
 .simp only [jP,kj] at key;rw [jxq c1] at key;rw [jJ5];simp only [je,e,key]
 .rw [jzm,j4];simp only [je]
 .intro i hi ih;have hlt:(i:Int) < ((r.length:Nat):Int):=by omega
  have h5:=jq hi c2;have e1:=jiU r[i] s hw hs;have e2:=jiU r[i] t hw' ht;rw [jzm,ji hi,yC];by_cases h:cnt r[i] t<=cnt r[i] s
  .have h':¬((cnt r[i] s:Nat):Int) < ((cnt r[i] t:Nat):Int):=by omega
   simp only [je,hlt,jb hi,e1,e2,h',h,h5,ih,jI]
  .have h':((cnt r[i] s:Nat):Int) < ((cnt r[i] t:Nat):Int):=by omega
   simp only [je,hlt,jb hi,e1,e2,h',h,jH]
noncomputable def Z7 (o:Ord'):Nat->T->T->Bool
 | 0,_,_=>false
 | n+1,s,t=>if bal s t then (if wt o s=wt o t then (if jp s.name || jp t.name then false else if yl o s t=0 then (match fd s.args t.args with|some (a,b)=>Z7 o n a b|none=>false) else decide (0 < yl o s t)) else decide (wt o t < wt o s)) else false
theorem jpN {s t a b:T} {n:Nat} (ha:a∈s.args) (hb:b∈t.args) (h:nodes s+nodes t<=n+1):nodes a+nodes b<=n:=by
 have h1:=qz ha;have h2:=qz hb;rw [jU s,jU t] at h;omega
theorem jlH {o:Ord'} {s t:T} (h:yl o s t=0):rk o s=rk o t/\s.args.length=t.args.length:=by
 unfold yl jby at h;split at h
 .rename_i h1;refine ⟨h1,?_⟩;split at h
  .cases h
  .split at h
   .cases h
   .omega
 .split at h
  .cases h
  .split at h
   .cases h
   .omega
theorem jiX {o:Ord'} (hv:qe o=true) (ho:o.syms.length<=9223372036854775807):∀(n:Nat) (s t:T),nodes s+nodes t<=n->J3 s->J3 t->tsz s<=1048576->tsz t<=1048576->K7 o.syms s=true->K7 o.syms t=true->G 244 [od o,tm s,tm t]=some (vb (Z7 o n s t),[])
 | 0,s,t,h,_,_,_,_,_,_=>by have:=qH s;omega
 | n+1,s,t,h,hw,hw',hs,ht,hc,hc'=>by
  obtain ⟨w1,w2,w3⟩:=(kH s).1 hw;have w3:=(kE _).1 w3;obtain ⟨v1,v2,v3⟩:=(kH t).1 hw';have v3:=(kE _).1 v3;have hns:=Jj s;have hnt:=Jj t;have e1:=jo5 s t hw hw' (by omega) (by omega);have e2:=jgP hv ho s hw hs hc;have e3:=jgP hv ho t hw' ht hc';have e4:=zE s.name w1;have e5:=zE t.name v1;have e6:=jCI o s t ho;have cs1:∀a∈s.args,K7 o.syms a=true:=λa ha=>by rw [Kj,ju] at hc;exact KA hc.2 ha
  have cs2:∀a∈t.args,K7 o.syms a=true:=λa ha=>by rw [Kj,ju] at hc';exact KA hc'.2 ha
  rw [jJS,Z7];cases hb:bal s t<;>rw [hb] at e1
  .simp only [je,e1]
  by_cases hwt:wt o s=wt o t;rotate_left
  .simp only [je,e1,e2,e3,hwt]
  cases hv1:jp s.name<;>rw [hv1] at e4
  rotate_left
  .simp only [je,e1,e2,e3,hwt,e4,yz]
  cases hv2:jp t.name<;>rw [hv2] at e5
  rotate_left
  .simp only [je,e1,e2,e3,hwt,e4,e5,kN]
  by_cases hr:yl o s t=0;rotate_left
  .simp only [je,e1,e2,e3,hwt,e4,e5,e6,hr,kN]
  obtain ⟨_,hlen⟩:=jlH hr;rcases jx4 s t hw hw' hlen with ⟨f1,f2⟩|⟨k,k1,k2,f1,f2⟩
  .have:¬(0:Int)<= -1:=by decide
   simp only [je,e1,e2,e3,hwt,e4,e5,e6,hr,kN,f1,f2,this]
  .have m1:=jr k1;have m2:=jr k2;have e7:=jiX hv ho n s.args[k] t.args[k] (jpN m1 m2 h) (w3 _ m1) (v3 _ m2) (by have:=yL m1;rw [kW] at hs;omega) (by have:=yL m2;rw [kW] at ht;omega) (cs1 _ m1) (cs2 _ m2);have:(0:Int)<=(k:Int):=by omega
   simp only [je,e1,e2,e3,hwt,e4,e5,e6,hr,kN,f1,f2,this,jb k1,jb k2,jf,e7]
theorem jsz {o:Ord'} (hv:qe o=true) (ho:o.syms.length<=9223372036854775807):∀(n:Nat) (s t:T),nodes s+nodes t<=n->J3 s->J3 t->tsz s<=1048576->tsz t<=1048576->yv s=true->yv t=true->K7 o.syms s=true->K7 o.syms t=true->G 257 [od o,tm s,tm t]=some (vb (Z7 o n s t),[])
 | 0,s,t,h,_,_,_,_,_,_,_,_=>by have:=qH s;omega
 | n+1,s,t,h,hw,hw',hs,ht,hk,hk',hc,hc'=>by
  obtain ⟨w1,w2,w3⟩:=(kH s).1 hw;have w3:=(kE _).1 w3;obtain ⟨v1,v2,v3⟩:=(kH t).1 hw';have v3:=(kE _).1 v3;have hns:=Jj s;have hnt:=Jj t;have ks:=zK hk;have ks':=zK hk';have e2:=jl6 hv ho s hw hs hk hc;have e3:=jl6 hv ho t hw' ht hk' hc';have e4:=ZS s hk;have e5:=ZS t hk';have e6:=jqO o t s ho;rw [jtf] at e6;have cs1:∀a∈s.args,K7 o.syms a=true:=λa ha=>by rw [Kj,ju] at hc;exact KA hc.2 ha
  have cs2:∀a∈t.args,K7 o.syms a=true:=λa ha=>by rw [Kj,ju] at hc';exact KA hc'.2 ha
  obtain ⟨r,er,c1,c2⟩:=jff t hw' hk' (by omega);have tail:jh9 (strs r) (vi (r.length:Nat)) (vi (r.length:Nat)) (strs o.syms) (ints o.ws) (vi o.var) (sv s.name) (jQ s.args) (sv t.name) (jQ t.args)=some (vb (if wt o s=wt o t then (if jp s.name || jp t.name then false else if yl o s t=0 then (match fd s.args t.args with|some (a,b)=>Z7 o n a b|none=>false) else decide (0 < yl o s t)) else decide (wt o t < wt o s)),[]):=by
   rw [jsI];by_cases hwt:wt o s=wt o t;rotate_left
   .simp only [je,e2,e3,hwt]
   have hnlt:¬wt o t < wt o s:=by omega
   cases hv1:jp s.name<;>rw [hv1] at e4
   rotate_left
   .simp only [je,e2,e3,hwt,e4,yz]
   cases hv2:jp t.name<;>rw [hv2] at e5
   rotate_left
   .simp only [je,e2,e3,hwt,e4,e5,kN]
   by_cases hr:yl o s t=0
   .have hr':¬ -yl o s t < 0:=by omega
    obtain ⟨hrk,hlen⟩:=jlH hr;have hcn:o.syms.contains s.name=true:=by rw [Kj,hv1,kN,ju] at hc;exact hc.1
    have hcn':o.syms.contains t.name=true:=by rw [Kj,hv2,kN,ju] at hc';exact hc'.1
    have e7:=jez s t hw hw' (jFS hcn hcn' hrk) hlen;cases hf:fd s.args t.args with
    | none=>
     have:fdR s t = .tup [zT,zT,vb false]:=by unfold fdR;rw [hf]
     rw [this] at e7;simp only [hr] at e6;simp only [je,e2,e3,hwt,e4,e5,e6,hr,hr',kN,e7,zT,Int.neg_zero]
    | some p=>
     obtain ⟨a,b⟩:=p;have:fdR s t = .tup [tm a,tm b,vb true]:=by unfold fdR;rw [hf]
     rw [this] at e7;obtain ⟨ma,mb⟩:=jnk hf;have e8:=jsz hv ho n a b (jpN ma mb h) (w3 a ma) (v3 b mb) (by have:=yL ma;rw [kW] at hs;omega) (by have:=yL mb;rw [kW] at ht;omega) (ks a ma) (ks' b mb) (cs1 a ma) (cs2 b mb);simp only [hr] at e6;simp only [je,e2,e3,hwt,e4,e5,e6,hr,hr',kN,e7,e8,Int.neg_zero]
   .by_cases hg:0 < yl o s t
    .have hg': -yl o s t < 0:=by omega
     simp only [je,e2,e3,hwt,e4,e5,e6,hr,hg,hg',kN]
    .have hg':¬ -yl o s t < 0:=by omega
     have hno:¬(s.name=t.name/\s.args.length=t.args.length):=by
      rintro ⟨q1,q2⟩;apply hr;have:rk o s=rk o t:=by unfold rk;rw [q1]
      unfold yl jby;rw [jl this,q2];simp
     have e7:=jeA s t hno;simp only [je,e2,e3,hwt,e4,e5,e6,hr,hg,hg',kN,e7,zT]
  have key:=upto (P:=λi=>jh9 (strs r) (vi (r.length:Nat)) (vi i) (strs o.syms) (ints o.ws) (vi o.var) (sv s.name) (jQ s.args) (sv t.name) (jQ t.args)=some (vb (if ((r.drop i).all λn=>decide (cnt n t<=cnt n s)) then (if wt o s=wt o t then (if jp s.name || jp t.name then false else if yl o s t=0 then (match fd s.args t.args with|some (a,b)=>Z7 o n a b|none=>false) else decide (0 < yl o s t)) else decide (wt o t < wt o s)) else false),[])) (n:=r.length) ?_ ?_ 0 (jE _)
  .simp only [jP,kj] at key;rw [jxq c1] at key;rw [jG0,Z7];simp only [je,er];exact key
  .rw [tail,j4];rfl
  .intro i hi ih;have hlt:(i:Int) < ((r.length:Nat):Int):=by omega
   have h5:=jq hi c2;have a1:=KU r[i] s hw (by omega);have a2:=KU r[i] t hw' (by omega);rw [jsI,ji hi,yC];by_cases hcn:cnt r[i] t<=cnt r[i] s
   .have h':¬((cnt r[i] s:Nat):Int) < ((cnt r[i] t:Nat):Int):=by omega
    simp only [je,hlt,jb hi,a1,a2,h',hcn,h5,ih,jI]
   .have h':((cnt r[i] s:Nat):Int) < ((cnt r[i] t:Nat):Int):=by omega
    simp only [je,hlt,jb hi,a1,a2,h',hcn,jH]
noncomputable def jaD (o:Ord') (s t:T):Int:=jbS (dq s t) (Z7 o (nodes s+nodes t) s t) (Z7 o (nodes s+nodes t) t s)
noncomputable def jaF (o:Ord') (s t:T):A:=if qe o && (good o s && good o t) then .tup [vi (jaD o s t),vb true] else .tup [vi 0,vb false]
theorem jho (o:Ord') (s t:T) (ho:owf o) (hw:J3 s) (hs:tsz s<=1048576) (hw':J3 t) (hs':tsz t<=1048576):G 213 [od o,tm s,tm t]=some (jaF o s t,[]):=by
 have e1:=jvG o ho;have e2:=jlh o s ho.1.2 hw hs;have e3:=jlh o t ho.1.2 hw' hs';have e4:=qo s hw t hw';have e7:=jvF (dq s t) (Z7 o (nodes s+nodes t) s t) (Z7 o (nodes s+nodes t) t s);rw [jJy,jaF];cases h:qe o<;>rw [h] at e1
 .simp only [je,e1,jH]
 .cases h2:good o s<;>rw [h2] at e2
  .simp only [je,e1,e2,z8,jH]
  .cases h3:good o t<;>rw [h3] at e3
   .simp only [je,e1,e2,e3,z8]
   .have g2:=jk8 h2;have g3:=jk8 h3;have e5:=jiX h ho.1.2 (nodes s+nodes t) s t (kD _) hw hw' hs hs' g2.2.1 g3.2.1;have e6:=jiX h ho.1.2 (nodes s+nodes t) t s (by omega) hw' hw hs' hs g3.2.1 g2.2.1;simp only [je,e1,e2,e3,e4,e5,e6,e7,jaD]
theorem jhf {o:Ord'} (hv:qe o=true) (s t:T) (ho:owf o) (hw:J3 s) (hs:tsz s<=1048576) (hw':J3 t) (hs':tsz t<=1048576) (hk:yv s=true) (hk':yv t=true) (hc:K7 o.syms s=true) (hc':K7 o.syms t=true):G 226 [od o,tm s,tm t]=some (vi (jaD o s t),[]):=by
 have e4:=zw s hw t hw';have e5:=jsz hv ho.1.2 (nodes s+nodes t) s t (kD _) hw hw' hs hs' hk hk' hc hc';have e6:=jsz hv ho.1.2 (nodes s+nodes t) t s (by omega) hw' hw hs' hs hk' hk hc' hc;have c1:G 256 [.elt (jnS o) 0,.elt [sv s.name,.sl 2 (s.args.map jm)] 0,.elt [sv t.name,.sl 2 (t.args.map jm)] 0]=some (vb (Z7 o (nodes s+nodes t) s t),[]):=by
  rw [jGZ];simp only [je,jeU,jeV,e5]
 have c2:G 258 [.elt (jnS o) 0,.elt [sv t.name,.sl 2 (t.args.map jm)] 0,.elt [sv s.name,.sl 2 (s.args.map jm)] 0]=some (vb (Z7 o (nodes s+nodes t) t s),[]):=by
  rw [jG1];simp only [je,jeU,jeV,e6]
 have e7:=jjh (f:=256) (g:=258) rfl rfl (dq s t) _ _ c1 c2;rw [jGX];simp only [je,e4,e7,jaD]
def jab (t:T):T:=t.args.getD 0 (.mk [] [])
def jbx (t:T):T:=t.args.getD 1 (.mk [] [])
def jbW (t:T):Bool:=decide (t.args.length=2) && (jD t && (yv (jab t) && yv (jbx t)))
theorem Zh {t:T} (hl:t.args.length=2):jh 2 (jQ t.args) (vi 0)=some (.elt (jm (jab t)) 0)/\jh 2 (jQ t.args) (vi 1)=some (.elt (jm (jbx t)) 0)/\jab t∈t.args/\jbx t∈t.args:=by
 have e0:jab t=t.args[0]:=by unfold jab;simp [qE,hl]
 have e1:jbx t=t.args[1]:=by unfold jbx;simp [qE,hl]
 rw [e0,e1];exact ⟨jb (i:=0) (by omega),jb (i:=1) (by omega),jr _,jr _⟩
theorem jdB (t:T) (hw:J3 t) (hs:tsz t<=1048576) (he:t.name = [61]):G 59 [tm t]=some (vb (jbW t),[]):=by
 obtain ⟨w1,w2,w3⟩:=(kH t).1 hw;have w3:=(kE _).1 w3;have het:(t.name = [61])=True:=eq_true he;unfold jbW;rw [g59];by_cases hl:t.args.length=2;rotate_left
 .have hl':¬((t.args.length:Nat):Int)=2:=by omega
  simp only [je,het,hl',hl,jH]
 have hl':((t.args.length:Nat):Int)=2:=by omega
 rw [jR hl,jI];obtain ⟨i0,i1,ma,mb⟩:=Zh hl;have p1:=jle t hw hs;have p2:=jdC _ (w3 _ ma);have p3:=jdC _ (w3 _ mb);cases h1:jD t<;>rw [h1] at p1
 .simp only [je,het,hl',p1,jH,z8]
 .cases h2:yv (jab t)<;>rw [h2] at p2
  .simp only [je,het,hl',p1,i0,jf,p2,jH,z8]
  .simp only [je,het,hl',p1,i0,i1,jf,p2,p3,jI]
theorem yX (t:T):G 76 [tm t]=some (vb (decide (t.name = [61])),[]):=by
 rw [g76];simp only [je]
theorem jbi (t:T) (hw:J3 t) (hs:tsz t<=1048576) (he:t.name = [61]):G 94 [tm t]=some (vb (jbW t),[]):=by
 obtain ⟨w1,w2,w3⟩:=(kH t).1 hw;have w3:=(kE _).1 w3;have q0:=yX t;rw [jR he] at q0;unfold jbW;rw [g94];by_cases hl:t.args.length=2;rotate_left
 .have hl':¬((t.args.length:Nat):Int)=2:=by omega
  simp only [je,q0,hl',hl,jH]
 have hl':((t.args.length:Nat):Int)=2:=by omega
 rw [jR hl,jI];obtain ⟨i0,i1,ma,mb⟩:=Zh hl;have p1:=jaL t hw hs;have p2:=jb0 _ (w3 _ ma);have p3:=jb0 _ (w3 _ mb);cases h1:jD t<;>rw [h1] at p1
 .simp only [je,q0,hl',p1,jH,z8]
 .cases h2:yv (jab t)<;>rw [h2] at p2
  .simp only [je,q0,hl',p1,i0,jf,p2,jH,z8]
  .simp only [je,q0,hl',p1,i0,i1,jf,p2,p3,jI]
def jLf (o:Ord') (t:T):Bool:=decide (t.name = [61]) && (jbW t && (K7 o.syms (jab t) && K7 o.syms (jbx t)))
theorem jF3:∀t:T,tsz t<=1048576->J3 t:=by
 refine T.ind λt ih h=> ?_;have h':=h;rw [kW] at h';exact (kH t).2 ⟨by omega,by omega,(kE _).2 λu hu=>ih u hu (by have:=yL hu;omega)⟩
theorem jqD {n:Nat} (h:n<=4194304):jW n 40=true:=by
 unfold jW;exact jR ⟨by omega,by omega⟩
theorem jcc (t:T):tsz t<=1048576->G 210 [tm t]=some (tm t,[]):=by
 refine T.ind (p:=λt=>tsz t<=1048576->G 210 [tm t]=some (tm t,[])) ?_ t;intro t ih h;rw [kW] at h;have key:=(upto (P:=λi=>jmH (vi i) (sv t.name) (jQ t.args) (sv []) (sv t.name) [] ((t.args.take i).map jm)=some (tm t,[])) (n:=t.args.length) ?_ ?_ 0 (jE _))
 .rw [jJv];simp only [jP,Jv,ya] at key;simp only [je,key]
 .rw [jyY,jfk];simp only [je]
 .intro i hi ih';have hlt:(i:Int) < ((t.args.length:Nat):Int):=by omega
  have h5:=jq hi (by show t.args.length<=9223372036854775807;omega)
  have e1:=ih t.args[i] (jr _) (by have:=yL (jr hi);omega)
  have hf:jW (i+1) 40=true:=jqD (by omega);have hl:((t.args.take i).map jm).length=i:=by rw [jK,qD];omega
  have ha:kq ((t.args.take i).map jm) [[sv t.args[i].name,jQ t.args[i].args]]=(t.args.take (i+1)).map jm:=by
   rw [show [sv t.args[i].name,jQ t.args[i].args]=jm t.args[i] from (zq _).symm,jbp,zk hi,zz];rfl
  rw [jyY];simp only [je,hlt,jb hi,jf,e1,hl,hf,ha,h5,ih',qD,ja9 (Z1 hi)]
theorem jCz (o:Ord') (s t:T):yl o s t=0↔rk o s=rk o t/\s.args.length=t.args.length:=by
 unfold yl jby;constructor
 .intro h;split at h
  .rename_i h1;refine ⟨h1,?_⟩;split at h
   .omega
   .split at h<;>omega
  .split at h
   .omega
   .split at h<;>omega
 .rintro ⟨h1,h2⟩;rw [jl h1,jo (by omega),jo (by omega)]
theorem jCy (o:Ord') (s:T):yl o s s=0:=(jCz o s s).2 ⟨rfl,rfl⟩
theorem juf:∀l:List T,fd l l=none
 | []=>rfl
 | x::l=>by rw [fd,jl (Jr.2 rfl),juf l]
def Lp (o:Ord') (s t:T):Prop:=jvP o (nodes s+nodes t) s t=true
theorem jcF {s a:T} (h:a∈s.args):nodes a < nodes s:=by
 have:=qz h;rw [jU s];omega
def Kp (o:Ord') (s t:T):Prop:=Z7 o (nodes s+nodes t) s t=true
theorem jdA (o:Ord'):∀(n m:Nat) (s t:T),nodes s+nodes t<=n->nodes s+nodes t<=m->Z7 o n s t=Z7 o m s t
 | 0,_,s,t,h,_=>by have:=qH s;omega
 | _+1,0,s,t,_,h=>by have:=qH s;omega
 | n+1,m+1,s,t,h1,h2=>by
  rw [Z7,Z7];cases hf:fd s.args t.args with
  | none=>rfl
  | some p=>
   obtain ⟨a,b⟩:=p;have hm:=jnk hf;have h3:=jcF hm.1;have h4:=jcF hm.2;simp only [jdA o n m a b (by omega) (by omega)]
theorem jxb (o:Ord') (s t:T):Kp o s t↔bal s t=true/\(wt o t < wt o s\/(wt o s=wt o t/\(jp s.name=false/\jp t.name=false)/\(0 < yl o s t\/(yl o s t=0/\ ∃a b,fd s.args t.args=some (a,b)/\Kp o a b)))):=by
 unfold Kp;obtain ⟨n,hn⟩:∃n,nodes s+nodes t=n+1:=⟨nodes s+nodes t - 1,by have:=qH s;omega⟩;rw [hn,Z7];have e3:(match fd s.args t.args with|some (a,b)=>Z7 o n a b|none=>false)=true↔ ∃a b,fd s.args t.args=some (a,b)/\Z7 o (nodes a+nodes b) a b=true:=by
  cases hf:fd s.args t.args with
  | none=>simp
  | some p=>
   obtain ⟨a,b⟩:=p;have hm:=jnk hf;have h3:=jcF hm.1;have h4:=jcF hm.2;dsimp only;rw [jdA o n (nodes a+nodes b) a b (by omega) (kD _)];constructor
   .intro h;exact ⟨a,b,rfl,h⟩
   .rintro ⟨a',b',h,h'⟩;cases h;exact h'
 cases hb:bal s t
 .simp
 .rw [jl rfl];simp only [true_and];by_cases hw:wt o s=wt o t
  .rw [jl hw];have hw':¬wt o t < wt o s:=by omega
   cases hv:jp s.name
   .cases hv2:jp t.name
    .simp only [Bool.or_self,Zg,K6,true_and,and_self];by_cases hr:yl o s t=0
     .rw [jl hr];refine Iff.trans e3 ?_;constructor
      .intro h;exact Or.inr ⟨hw,Or.inr ⟨hr,h⟩⟩
      .rintro (h|⟨_,h|⟨_,h⟩⟩)
       .exact (hw' h).elim
       .omega
       .exact h
     .rw [jo hr,jov];constructor
      .intro h;exact Or.inr ⟨hw,Or.inl h⟩
      .rintro (h|⟨_,h|⟨h,_⟩⟩)
       .exact (hw' h).elim
       .exact h
       .exact (hr h).elim
    .simp [hw']
   .simp [hw']
  .rw [jo hw,jov];constructor
   .intro h;exact Or.inl h
   .rintro (h|⟨h,_⟩)
    .exact h
    .exact (hw h).elim
theorem jAR {n:List UInt8} (hn:jp n=true):∀t:T,yv t=true->(n∈kT t↔1<=cnt n t):=by
 refine T.ind λt ih hk=> ?_;have hL:∀ts:List T,(∀u∈ts,(n∈kT u↔1<=cnt n u))->(n∈yy ts↔1<=Yk n ts):=by
  intro ts;induction ts with
  | nil=>intro _;simp [yy,Yk]
  | cons u us ih2=>
   intro h;have h1:=h u (by simp);have h2:=ih2 λv hv=>h v (by simp [hv]);simp only [yy,Yk,zh,h1,h2];omega
 have hargs:=hL t.args λu hu=>ih u hu (zK hk u hu);rw [Qd,jfP];rw [yT] at hk;cases hv:jp t.name
 .have hne:t.name≠n:=λe=>by rw [e,hn] at hv;cases hv
  rw [jo kh,jo hne,hargs];omega
 .rw [hv,jl rfl] at hk;have ha:=jdl.1 hk;rw [jl rfl,zi,ha];by_cases e:t.name=n
  .rw [jl e];simp [Yk,e]
  .rw [jo e];simp [Yk];exact λh=>e h.symm
theorem jAS {n:List UInt8} :∀t:T,n∈kT t->jp n=true:=by
 refine T.ind λt ih h=> ?_;rw [Qd] at h;cases hv:jp t.name
 .rw [hv,jo kh] at h;have:∀ts:List T,(∀u∈ts,n∈kT u->jp n=true)->n∈yy ts->jp n=true:=by
   intro ts;induction ts with
   | nil=>intro _ h;simp [yy] at h
   | cons u us ih2=>
    intro h h2;simp only [yy,zh] at h2;rcases h2 with h2|h2
    .exact h u (by simp) h2
    .exact ih2 (λv hv=>h v (by simp [hv])) h2
  exact this t.args ih h
 .rw [hv,jl rfl,zi] at h;rw [h];exact hv
theorem jEn (o:Ord') (x:T):¬Kp o x x:=by
 intro h;obtain ⟨_,h|⟨_,_,h|⟨_,_,_,h,_⟩⟩⟩:=(jxb o x x).1 h
 .omega
 .rw [jCy] at h;omega
 .rw [juf] at h;cases h
theorem jvg (o:Ord') (s t:T):jaD o s t=jbS (dq s t) (@decide (Kp o s t) (Classical.propDecidable _)) (@decide (Kp o t s) (Classical.propDecidable _)):=by
 have e1:Z7 o (nodes s+nodes t) s t = @decide (Kp o s t) (Classical.propDecidable _):=by
  unfold Kp;cases Z7 o (nodes s+nodes t) s t<;>simp
 have e2:Z7 o (nodes s+nodes t) t s = @decide (Kp o t s) (Classical.propDecidable _):=by
  rw [jdA o (nodes s+nodes t) (nodes t+nodes s) t s (by omega) (kD _)];unfold Kp;cases Z7 o (nodes t+nodes s) t s<;>simp
 unfold jaD;rw [e1,e2]
def rbI (c:Int):Int:=if c=2 then 3 else if c=3 then 2 else c
open Classical in
open Classical in
theorem jxE {R:T->T->Prop} {s t:T} (hir:∀x,¬R x x):jbS (dq s t) (decide (R s t)) (decide (R t s))=2↔R s t:=by
 unfold jbS;cases hd:dq s t
 .by_cases h1:R s t
  .simp [h1]
  .by_cases h2:R t s<;>simp [h1,h2]
 .have:=Jr.1 hd;subst this;simp [hir s]
theorem jCa (o:Ord') (s t:T):jaD o s t=2↔Kp o s t:=by
 rw [jvg];exact jxE (R:=Kp o) (jEn o)
def look:List (List UInt8 × T)->List UInt8->Option T
 | [],_=>none
 | p::u,n=>if p.1=n then some p.2 else look u n
def jbC (u:List (List UInt8 × T)) (n:List UInt8):T:=(look u n).getD (.mk n [])
mutual
def sub (u:List (List UInt8 × T)):T->T
 | .mk n us=>if jp n then jbC u n else .mk n (jwI u us)
def jwI (u:List (List UInt8 × T)):List T->List T
 | []=>[]
 | t::ts=>sub u t::jwI u ts
end
theorem jrq (u:List (List UInt8 × T)):∀ts:List T,jwI u ts=ts.map (sub u)
 | []=>rfl
 | t::ts=>by rw [jwI,jrq u ts,yH]
theorem K0 {u:List (List UInt8 × T)} {t:T} (h:jp t.name=true):sub u t=jbC u t.name:=by
 obtain ⟨n,us⟩:=t;have h:jp n=true:=h;show (if jp n then jbC u n else T.mk n (jwI u us))=_;rw [jl h];rfl
theorem JY {u:List (List UInt8 × T)} {t:T} (h:jp t.name=false):sub u t = .mk t.name (t.args.map (sub u)):=by
 obtain ⟨n,us⟩:=t;have h:jp n=false:=h;show (if jp n then jbC u n else T.mk n (jwI u us))=_;rw [h,jo kh,jrq];rfl
theorem jjV {u:List (List UInt8 × T)} {t:T} (h:jp t.name=false):(sub u t).name=t.name:=by rw [JY h];rfl
theorem je9 {u:List (List UInt8 × T)} {t:T} (h:jp t.name=false):(sub u t).args=t.args.map (sub u):=by rw [JY h];rfl
theorem JN {t:T} (h:yv t=true) (hv:jp t.name=true):t.args = []:=by
 rw [yT,hv,jl rfl] at h;exact jdl.1 h
def jKD (f:List UInt8->Int):List (List UInt8)->Int
 | []=>0
 | x::l=>f x+jKD f l
theorem jAG {o:Ord'} (hv:qe o=true) {n:List UInt8} (h:o.syms.contains n=true):o.var<=jhp o n:=by
 obtain ⟨k,hk,hlt⟩:=jet h;obtain ⟨h1,h2,h3,h4⟩:=QI hv;have h5:=h4 k hlt;have hlt':k < o.ws.length:=by omega
 have e:jhp o n=o.ws.getD k 0:=by simp [jhp,hk]
 rw [e];exact h5.1
theorem jF9 {o:Ord'} (hv:qe o=true) {t:T} (hc:K7 o.syms t=true):o.var<=wt o t:=by
 have hc':=hc;rw [Kj,ju] at hc';have hb:=(jav hv hc'.2).1;rw [jrG];cases hn:jp t.name with
 | true=>simp only [Jm];omega
 | false=>
  have hcn:=hc'.1;rw [hn,kN] at hcn;have:=jAG hv hcn;simp only [Zg,K6];omega
abbrev bc (p:List UInt8 × T):List A:=[sv p.1,sv p.2.name,.sl 2 (p.2.args.map jm)]
abbrev ZK (u:List (List UInt8 × T)):A:= .sl 3 (u.map bc)
abbrev sb (u:List (List UInt8 × T)):A:= .agg [ZK u]
theorem YZ (p:List UInt8 × T):ke 2 (.elt (bc p) 1)=some (tm p.2):=rfl
theorem yx (p:List UInt8 × T):ku (.elt (bc p) 0)=some (sv p.1):=rfl
theorem qw (p:List UInt8 × T) (n:Nat):ye (.elt (bc p) 0) n=some (.elt (bc p) n):=by rw [qI,Jg]
def Sz (z:Nat) (u:List (List UInt8 × T)):Prop:=u.length<=z/\ ∀p∈u,p.1.length<=z/\tsz p.2<=z
theorem jlg (u:List (List UInt8 × T)) (hl:u.length<=1048576) (n:List UInt8):(look u n=none/\G 211 [sb u,sv n]=some (vi (-1),[]))\/ ∃k,∃h:k < u.length,look u n=some u[k].2/\G 211 [sb u,sv n]=some (vi (k:Nat),[]):=by
 have key:=upto (P:=λi=>(look (u.drop i) n=none/\jh2 (sv n) (vi i) (ZK u)=some (vi (-1),[]))\/ ∃k,∃h:k < u.length,look (u.drop i) n=some u[k].2/\jh2 (sv n) (vi i) (ZK u)=some (vi (k:Nat),[])) (n:=u.length) ?_ ?_ 0 (jE _)
 .rw [jJw];exact key
 .left;rw [j4,jyZ];exact ⟨rfl,by simp only [je]⟩
 .intro i hi ih;have hlt:(i:Int) < ((u.length:Nat):Int):=by omega
  have h5:=jq hi (by show u.length<=9223372036854775807;omega)
  rw [jyZ,ji hi,look];by_cases he:u[i].1=n
  .right;rw [jl he];exact ⟨i,hi,rfl,by simp only [je,hlt,jb hi,qw,yx,he]⟩
  .rw [jo he];rcases ih with ⟨h1,h2⟩|⟨k,hk,h1,h2⟩
   .left;exact ⟨h1,by simp only [je,hlt,jb hi,qw,yx,he,h5,h2]⟩
   .right;exact ⟨k,hk,h1,by simp only [je,hlt,jb hi,qw,yx,he,h5,h2]⟩
theorem Zo (u:List (List UInt8 × T)) (hu:Sz 1048576 u) (t:T):tsz t<=1048576->G 183 [sb u,tm t]=some (tm (sub u t),[]):=by
 refine T.ind (p:=λt=>tsz t<=1048576->G 183 [sb u,tm t]=some (tm (sub u t),[])) ?_ t;intro t ih hs;have h:=hs;rw [kW] at h;have e1:=zE t.name (by show t.name.length<=9223372036854775807;omega);rw [jJa];cases hv:jp t.name<;>rw [hv] at e1
 .have key:=(upto (P:=λi=>jmu (vi i) (ZK u) (sv t.name) (jQ t.args) (sv []) (sv t.name) [] (((t.args.map (sub u)).take i).map jm)=some (tm (sub u t),[])) (n:=t.args.length) ?_ ?_ 0 (jE _))
  .simp only [jP,Jv,ya] at key;simp only [je,e1,key]
  .rw [jyG,ql (by rw [jK];omega),JY hv]
   simp only [je];rfl
  .intro i hi ih';have hlt:(i:Int) < ((t.args.length:Nat):Int):=by omega
   have h5:=jq hi (by show t.args.length<=9223372036854775807;omega)
   have e2:=ih t.args[i] (jr _) (by have:=yL (jr hi);omega)
   have hf:jW (i+1) 40=true:=jqD (by omega);have hi2:i < (t.args.map (sub u)).length:=by rw [jK];exact hi
   have hl:(((t.args.map (sub u)).take i).map jm).length=i:=by rw [jK,qD,jK];omega
   have ha:kq (((t.args.map (sub u)).take i).map jm) [[sv (sub u t.args[i]).name,jQ (sub u t.args[i]).args]]=((t.args.map (sub u)).take (i+1)).map jm:=by
    rw [show [sv (sub u t.args[i]).name,jQ (sub u t.args[i]).args]=jm (sub u t.args[i]) from (zq _).symm,jbp,zk hi2,zz,jdj];rfl
   generalize ((t.args.map (sub u)).take i).map jm=R at *;rw [jyG];simp only [je,hlt,jb hi,jf,e2,hl,hf,ha,h5,ih']
 .rw [K0 hv,jbC];rcases jlg u hu.1 t.name with ⟨h1,h2⟩|⟨k,hk,h1,h2⟩
  .rw [h1];simp only [je,e1,h2];rfl
  .rw [h1];have hm:=hu.2 _ (jr hk);have e3:=jcc u[k].2 hm.2;have hk0:(0:Int)<=((k:Nat):Int):=by omega
   simp only [je,e1,h2,hk0,jb hk,qw,YZ,e3,jdY]
end Go.Proofs.YtbidbdhamhbebaaGreatDoor
