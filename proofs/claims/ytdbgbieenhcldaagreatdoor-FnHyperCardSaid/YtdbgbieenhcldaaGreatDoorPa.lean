/- Pa -/
import Derived.Test.YtdbgbieenhcldaaGreatDoorKt
import Derived.Test.YtdbgbieenhcldaaGreatDoorPq
import Derived.Test.YtdbgbieenhcldaaGreatDoorEd
import Derived.ChangeSame
import Derived.Sort.Walk0
import Derived.Lib.ItoaNum
namespace Go.Proofs.YtdbgbieenhcldaaGreatDoor
open Go Go.RowKit Go.Proofs.YtdbgbieenhcldaaGreatDoor.Abs
set_option linter.unusedSimpArgs false
set_option linter.unusedVariables false
abbrev ci (n:Int):List A:=[vi n]
abbrev cs (s:List UInt8):List A:=[sv s]
abbrev ints (l:List Int):A:= .sl 1 (l.map ci)
abbrev strs (l:List (List UInt8)):A:= .sl 1 (l.map cs)
section
theorem jdg {α:Type} (x y:α):brn true x y=x:=rfl
theorem YJ {α:Type} (x y:α):brn false x y=y:=rfl
theorem jsn {α:Type} (b:Bool) (x y:α):brn b x y=if b=true then x else y:=rfl
theorem jts:(-1:Int) < 0:=by decide
theorem jaB (b:Bool):yD (vb b)=some b:=rfl
theorem jjc (b:Bool) (x y:A):Jt (vb b) x y=some (if b=true then x else y):=rfl
theorem jvc (b w:Bool) (x:Option A):pG (vb b) w x=if b=w then x else some (.val undef):=rfl
theorem jjf (b w:Bool):Ju (vb b) w=some (decide (b=w)):=rfl
theorem jrc (w:Bool) (x:Option A):pG (.val undef) w x=some (.val undef):=rfl
theorem jje (w:Bool):Ju (.val undef) w=some false:=rfl
theorem jrd (k:Nat) (xs:List (List A)):zu (.sl k xs)=some (vi xs.length):=rfl
theorem Kt (xs:List (List A)):zv xs=vi xs.length:=rfl
theorem jeq (xs:List (List A)):jh xs=xs.length:=rfl
theorem Yh (l:List UInt8):Yg (sv l)=some (vi l.length):=rfl
theorem jiv (a:A):fin false (a,[])=some a:=rfl
theorem jv7 (b c:Bool):fin c (vb b,[])=some (vb b):=by cases c<;>rfl
theorem jv8 (c:Bool) (n:Int):fin c (vi n,[])=some (vi n):=by cases c<;>rfl
theorem jtB (b:Bool):JM .not (vb b)=some (vb (!b)):=rfl
theorem ji8 (b:Bool) (x y:Int):jp .lss b (vi x) (vi y)=some (vb (decide (x < y))):=rfl
theorem jq7 (b:Bool) (x y:Int):jp .leq b (vi x) (vi y)=some (vb (decide (x<=y))):=rfl
theorem Yf (b:Bool) (x y:Int):jp .gtr b (vi x) (vi y)=some (vb (decide (y < x))):=rfl
theorem jq6 (b:Bool) (x y:Int):jp .geq b (vi x) (vi y)=some (vb (decide (y<=x))):=rfl
theorem ji7 (b:Bool) (x y:Int):jp .eql b (vi x) (vi y)=some (vb (decide (x=y))):=rfl
theorem jq9 (b:Bool) (x y:Int):jp .neq b (vi x) (vi y)=some (vb (!decide (x=y))):=rfl
theorem jn4 (b:Bool) (x y:Int):jp .lss b (vy x) (vy y)=some (vb (decide (x < y))):=rfl
theorem jn3 (b:Bool) (x y:Int):jp .leq b (vy x) (vy y)=some (vb (decide (x<=y))):=rfl
theorem jn2 (b:Bool) (x y:Int):jp .gtr b (vy x) (vy y)=some (vb (decide (y < x))):=rfl
theorem jn1 (b:Bool) (x y:Int):jp .geq b (vy x) (vy y)=some (vb (decide (y<=x))):=rfl
theorem jn0 (b:Bool) (x y:Int):jp .eql b (vy x) (vy y)=some (vb (decide (x=y))):=rfl
theorem jn5 (b:Bool) (x y:Int):jp .neq b (vy x) (vy y)=some (vb (!decide (x=y))):=rfl
theorem jn6 (x y:Bool):jp .eql true (vb x) (vb y)=some (vb (decide (x=y))):=rfl
theorem jn7 (x y:Bool):jp .neq true (vb x) (vb y)=some (vb (!decide (x=y))):=rfl
theorem JZ (b:Bool) (x y:Int):jp .add b (vi x) (vi y)=ck (x+y):=by cases b<;>rfl
theorem ji9 (b:Bool) (x y:Int):jp .sub b (vi x) (vi y)=ck (x - y):=by cases b<;>rfl
theorem jq8 (b:Bool) (x y:Int):jp .mul b (vi x) (vi y)=ck (x * y):=by cases b<;>rfl
theorem jG {n:Int} (h1: -9223372036854775808<=n) (h2:n<=9223372036854775807):ck n=some (vi n):=if_pos ⟨h1,h2⟩
theorem K2 (b:Bool) (x y:List UInt8):jp .add b (sv x) (sv y)=if x.length+y.length<=9223372036854775807 then some (sv (x++y)) else none:=by cases b<;>rfl
theorem jbk (b:Bool) (x y:List UInt8):jp .eql b (sv x) (sv y)=some (vb (decide (x=y))):=rfl
theorem job (b:Bool) (x y:List UInt8):jp .neq b (sv x) (sv y)=some (vb (!decide (x=y))):=rfl
theorem joa (b:Bool) (x y:List UInt8):jp .lss b (sv x) (sv y)=some (vb (zF x y)):=rfl
theorem jrf (a:A) (l:List A):kJ (.elt (a::l) 0)=some a:=rfl
theorem yQ (cs:List A) (off n:Nat):yJ (.elt cs off) n=some (.elt cs (off+n)):=rfl
theorem jlh (off:Nat) (cs:List A):jee off (.agg cs)=cs[off]? :=rfl
theorem jle (n:Nat) (ds:List A):jbm n (.agg ds)=if ds.length=n/\ds.all jK=true then some ds else none:=rfl
theorem jnv (a:A) (l:List A):jb (a::l) 0=a:=rfl
theorem jpn (a b:A) (l:List A):jb (a::b::l) 1=b:=rfl
theorem jpo (a b c:A) (l:List A):jb (a::b::c::l) 2=c:=rfl
theorem jkD (a b c d:A) (l:List A):jb (a::b::c::d::l) 3=d:=rfl
theorem jwl (k:Nat) (xs:List (List A)):jK (.sl k xs)=true:=rfl
theorem jtv (cs:List A) (o:Nat):jK (.elt cs o)=true:=rfl
theorem jwk (f:FuncId) (l:List A):jK (.fn f l)=true:=rfl
theorem jwo (n:Int):jK (vi n)=true:=rfl
theorem jwn (b:Bool):jK (vb b)=true:=rfl
theorem jwm (l:List UInt8):jK (sv l)=true:=rfl
theorem jws (n:Nat) (i:Int):Ke n (vi i)=if 0<=i/\i < (n:Int) then some i.toNat else none:=rfl
theorem zi {n i:Nat} (h:i < n):Ke n (vi i)=some i:=by
 rw [jws,if_pos ⟨by omega,by omega⟩];simp
theorem jri (k:Nat) (xs:List (List A)):jeh k (.sl k xs)=some xs:=if_pos rfl
theorem jwv (a:A) (l:List A):jei (.tup (a::l)) 0=some a:=rfl
theorem jww (a b:A) (l:List A):jei (.tup (a::b::l)) 1=some b:=rfl
theorem jwx (a b c:A) (l:List A):jei (.tup (a::b::c::l)) 2=some c:=rfl
theorem jtz (x y:Int):jli (vi x) (vi y)=some (vi (if x < y then y else x)):=by
 unfold jli;simp
theorem jtA (x y:Int):jod (vi x) (vi y)=some (vi (if y < x then y else x)):=by
 unfold jod;simp
theorem jxI (a:A) (l:List A) (i:Nat):hD (a,l) i=l[i]? :=rfl
theorem jAp (k:Nat) (a:A) (xs:List (List A)) (l:List A):hR k (a,.sl k xs::l) 0=some xs:=by simp [hR]
theorem jAq (k:Nat) (a b:A) (xs:List (List A)) (l:List A):hR k (a,b:: .sl k xs::l) 1=some xs:=by simp [hR]
theorem jAr (k:Nat) (a b c:A) (xs:List (List A)) (l:List A):hR k (a,b::c:: .sl k xs::l) 2=some xs:=by simp [hR]
theorem yN {f:FuncId} {caps args:List A} {c:Bool} (h:K.pureF f=true):DX.run K (MM K) (.callc (.fn f caps) args c)=(G f (args++caps)).bind (fin c):=by
 simp only [DX.run,h,if_true]
theorem ja {α:Type} {k:Nat} {f:α->List A} {xs:List α} {i:Nat} (h:i < xs.length):jq k (.sl k (xs.map f)) (vi i)=some (.elt (f xs[i]) 0):=by
 simp only [jq,if_true,List.length_map,zi h,Option.map_some];simp [List.getD_eq_getElem?_getD,h]
theorem jr {i n:Nat} (h:i < n) (hn:n<=9223372036854775807):jp .add false (vi i) (vi 1)=some (vi ((i+1:Nat):Int)):=by
 rw [JZ,jG (by omega) (by omega)];rfl
theorem jx6 (d top:Nat) (z:Int):pB d top (some (vi z))=if 0<=z/\z<=(top:Int) then some z.toNat else none:=rfl
theorem yg {d top n:Nat} (h:n<=top):pB d top (some (vi n))=some n:=by
 rw [jx6,if_pos ⟨by omega,by omega⟩];simp
theorem zc {d top:Nat} (h:d<=top):pB d top none=some d:=if_pos h
theorem jtD (xs:List (List A)):zx xs=xs.length:=rfl
theorem yh (xs:List (List A)) (off:Nat):kZ xs off=xs.length - off:=rfl
theorem jcK (xs:List (List A)) (off n:Nat):zC xs off n=(xs.drop off).take n:=rfl
theorem jaD (xs:List (List A)) (off:Nat) (ys:List (List A)):z8 xs off ys=xs.take off++ys++xs.drop (off+ys.length):=rfl
theorem ya (a b:Nat):jT a b=a - b:=rfl
theorem jrg (off n:Nat) (ys xs:List (List A)):jfH off n ys xs=decide (off+n+ys.length<=xs.length):=rfl
theorem upto {P:Nat->Prop} {n:Nat} (h0:P n) (hs:∀i,i < n->P (i+1)->P i):∀i,i<=n->P i:=by
 intro i hi;obtain ⟨k,hk⟩:∃k,n=i+k:=⟨n - i,by omega⟩;induction k generalizing i with
 | zero=>rw [show i=n by omega];exact h0
 | succ k ih=>exact hs i (by omega) (ih (i+1) (by omega) (by omega))
theorem jo {α:Type} {xs:List α} {i:Nat} (h:i < xs.length):xs.drop i=xs[i]::xs.drop (i+1):=List.drop_eq_getElem_cons h
theorem evs :
  ((-1:Int) < 0)/\
  (∀ {α:Type} (x y:α),brn true x y=x)/\
  (∀ {α:Type} (x y:α),brn false x y=y)/\
  (∀ {α:Type} (b:Bool) (x y:α),brn b x y=if b=true then x else y)/\
  (∀ {α β:Type} (a:α) (f:α->Option β),(some a).bind f=f a)/\
  (∀ {α β:Type} (f:α->Option β),none.bind f=none)/\
  (∀(b:Bool),yD (vb b)=some b)/\
  (∀(b:Bool) (x y:A),Jt (vb b) x y=some (if b=true then x else y))/\
  (∀(b w:Bool) (x:Option A),pG (vb b) w x=if b=w then x else some (A.val undef))/\
  (∀(b w:Bool),Ju (vb b) w=some (decide (b=w)))/\
  (∀(w:Bool) (x:Option A),pG (A.val undef) w x=some (A.val undef))/\
  (∀(w:Bool),Ju (A.val undef) w=some false)/\
  (∀(k:Nat) (xs:List (List A)),zu (A.sl k xs)=some (vi ↑xs.length))/\
  (∀(xs:List (List A)),zv xs=vi ↑xs.length)/\
  (∀(xs:List (List A)),jh xs=xs.length)/\
  (∀(l:List UInt8),Yg (sv l)=some (vi ↑l.length))/\
  (∀(a:A),fin false (a,[])=some a)/\
  (∀(b c:Bool),fin c (vb b,[])=some (vb b))/\
  (∀(c:Bool) (n:Int),fin c (vi n,[])=some (vi n))/\
  (∀(b:Bool),JM UnOp.not (vb b)=some (vb !b))/\
  (∀(b:Bool) (x y:Int),jp BinOp.lss b (vi x) (vi y)=some (vb (decide (x < y))))/\
  (∀(b:Bool) (x y:Int),jp BinOp.leq b (vi x) (vi y)=some (vb (decide (x<=y))))/\
  (∀(b:Bool) (x y:Int),jp BinOp.gtr b (vi x) (vi y)=some (vb (decide (y < x))))/\
  (∀(b:Bool) (x y:Int),jp BinOp.geq b (vi x) (vi y)=some (vb (decide (y<=x))))/\
  (∀(b:Bool) (x y:Int),jp BinOp.eql b (vi x) (vi y)=some (vb (decide (x=y))))/\
  (∀(b:Bool) (x y:Int),jp BinOp.neq b (vi x) (vi y)=some (vb !decide (x=y)))/\
  (∀(b:Bool) (x y:Int),jp BinOp.lss b (vy x) (vy y)=some (vb (decide (x < y))))/\
  (∀(b:Bool) (x y:Int),jp BinOp.leq b (vy x) (vy y)=some (vb (decide (x<=y))))/\
  (∀(b:Bool) (x y:Int),jp BinOp.gtr b (vy x) (vy y)=some (vb (decide (y < x))))/\
  (∀(b:Bool) (x y:Int),jp BinOp.geq b (vy x) (vy y)=some (vb (decide (y<=x))))/\
  (∀(b:Bool) (x y:Int),jp BinOp.eql b (vy x) (vy y)=some (vb (decide (x=y))))/\
  (∀(b:Bool) (x y:Int),jp BinOp.neq b (vy x) (vy y)=some (vb !decide (x=y)))/\
  (∀(x y:Bool),jp BinOp.eql true (vb x) (vb y)=some (vb (decide (x=y))))/\
  (∀(x y:Bool),jp BinOp.neq true (vb x) (vb y)=some (vb !decide (x=y)))/\
  (∀(b:Bool) (x y:Int),jp BinOp.add b (vi x) (vi y)=ck (x+y))/\
  (∀(b:Bool) (x y:Int),jp BinOp.sub b (vi x) (vi y)=ck (x - y))/\
  (∀(b:Bool) (x y:Int),jp BinOp.mul b (vi x) (vi y)=ck (x * y))/\
  (∀(b:Bool) (x y:List UInt8),jp BinOp.eql b (sv x) (sv y)=some (vb (decide (x=y))))/\
  (∀(b:Bool) (x y:List UInt8),jp BinOp.neq b (sv x) (sv y)=some (vb !decide (x=y)))/\
  (∀(b:Bool) (x y:List UInt8),jp BinOp.lss b (sv x) (sv y)=some (vb (zF x y)))/\
  (∀(a:A) (l:List A),kJ (A.elt (a::l) 0)=some a)/\
  (∀(cs:List A) (off n:Nat),yJ (A.elt cs off) n=some (A.elt cs (off+n)))/\
  (∀(off:Nat) (cs:List A),jee off (A.agg cs)=cs[off]?)/\
  (∀(n:Nat) (ds:List A),jbm n (A.agg ds)=if ds.length=n/\ds.all jK=true then some ds else none)/\
  (∀(a:A) (l:List A),jb (a::l) 0=a)/\
  (∀(a b:A) (l:List A),jb (a::b::l) 1=b)/\
  (∀(a b c:A) (l:List A),jb (a::b::c::l) 2=c)/\
  (∀(a b c d:A) (l:List A),jb (a::b::c::d::l) 3=d)/\
  (∀(k:Nat) (xs:List (List A)),jK (A.sl k xs)=true)/\
  (∀(cs:List A) (o:Nat),jK (A.elt cs o)=true)/\
  (∀(f:FuncId) (l:List A),jK (A.fn f l)=true)/\
  (∀(n:Int),jK (vi n)=true)/\
  (∀(b:Bool),jK (vb b)=true)/\
  (∀(l:List UInt8),jK (sv l)=true)/\
  (∀(k:Nat) (xs:List (List A)),jeh k (A.sl k xs)=some xs)/\
  (∀(a:A) (l:List A),jei (A.tup (a::l)) 0=some a)/\
  (∀(a b:A) (l:List A),jei (A.tup (a::b::l)) 1=some b)/\
  (∀(a b c:A) (l:List A),jei (A.tup (a::b::c::l)) 2=some c)/\
  (∀(x y:Int),jli (vi x) (vi y)=some (vi (if x < y then y else x)))/\
  (∀(x y:Int),jod (vi x) (vi y)=some (vi (if y < x then y else x)))/\
  (∀(a:A) (l:List A) (i:Nat),hD (a,l) i=l[i]?)/\
  (∀(k:Nat) (a:A) (xs:List (List A)) (l:List A),hR k (a,A.sl k xs::l) 0=some xs)/\
  (∀(k:Nat) (a b:A) (xs:List (List A)) (l:List A),hR k (a,b::A.sl k xs::l) 1=some xs)/\
  (∀(k:Nat) (a b c:A) (xs:List (List A)) (l:List A),hR k (a,b::c::A.sl k xs::l) 2=some xs)/\
  (∀ {α:Type} {a:α} {l:List α} {f:α->Bool},(a::l).all f=(f a && l.all f))/\
  (∀ {α:Type} {f:α->Bool},([]:List α).all f=true)/\
  (∀ {α:Type} {a:α} {l:List α},(a::l).length=l.length+1)/\
  (∀ {α:Type},([]:List α).length=0)/\
  (∀ {α β:Type} {l:List α} (f:α->β),(List.map f l).length=l.length)/\
  (∀(n:Nat),0+n=n)/\
  (∀(b:Bool),(b && b)=b)/\
  (∀(b:Bool),(b && true)=b)/\
  (∀(p:Prop),(p/\p)=p)/\
  (∀ {α:Type} {_x:Decidable True} (t e:α),(if True then t else e)=t)/\
  (∀ {α:Type} {_x:Decidable False} (t e:α),(if False then t else e)=e)/\
  ((true=false)=False)/\
  ((false=true)=False)/\
  (∀(_h:Decidable True),decide True=true)/\
  (∀(_h:Decidable False),decide False=false)/\
  ((!true)=false)/\
  ((!false)=true)/\
  (∀(b:Bool),((!b)=true)=(b=false))/\
  (∀ {p:Prop} [Decidable p],(decide p=true)=p)/\
  (∀ {p:Prop} {x:Decidable p},decide p=false↔ ¬p)/\
  (∀(a:Int),¬a < a)/\
  ((¬True)=False)/\
  ((¬False)=True)/\
  (∀ {α:Type} (a b:α),(if True then a else b)=a)/\
  (∀ {α:Type} (a b:α),(if False then a else b)=b):=
 ⟨@jts,@jdg,@YJ,@jsn,@Option.bind_some.{0,0},@Option.bind_none.{0,0},@jaB,@jjc,@jvc,@jjf,@jrc,@jje,@jrd,@Kt,@jeq,@Yh,@jiv,@jv7,@jv8,@jtB,@ji8,@jq7,@Yf,@jq6,@ji7,@jq9,@jn4,@jn3,@jn2,@jn1,@jn0,@jn5,@jn6,@jn7,@JZ,@ji9,@jq8,@jbk,@job,@joa,@jrf,@yQ,@jlh,@jle,@jnv,@jpn,@jpo,@jkD,@jwl,@jtv,@jwk,@jwo,@jwn,@jwm,@jri,@jwv,@jww,@jwx,@jtz,@jtA,@jxI,@jAp,@jAq,@jAr,@List.all_cons.{0},@List.all_nil.{0},@List.length_cons.{0},@List.length_nil.{0},@List.length_map.{0,0},@Nat.zero_add,@Bool.and_self,@Bool.and_true,@and_self,@if_true.{1},@if_false.{1},@Bool.true_eq_false,@Bool.false_eq_true,@decide_true,@decide_false,@Bool.not_true,@Bool.not_false,@Bool.not_eq_true',@decide_eq_true_eq,@decide_eq_false_iff_not,@Int.lt_irrefl,@not_true_eq_false,@not_false_eq_true,@ite_true.{1},@ite_false.{1}⟩
end
theorem jxC:(∀ {α:Type} {h:Decidable True} (a b:α),@ite α True h a b=a)/\(∀ {α:Type} {h:Decidable False} (a b:α),@ite α False h a b=b)/\(1+1=2/\1+2=3/\1+3=4/\1+4=5/\2+1=3/\2+2=4/\2+3=5/\2+4=6/\3+1=4/\3+2=5/\3+3=6/\3+4=7/\4+1=5/\4+2=6/\4+3=7/\4+4=8/\5+1=6/\5+2=7/\5+3=8/\5+4=9/\6+1=7/\6+2=8/\6+3=9/\6+4=10/\7+1=8/\7+2=9/\7+3=10/\7+4=11/\8+1=9/\8+2=10/\8+3=11/\8+4=12/\9+1=10/\9+2=11/\9+3=12/\9+4=13/\10+1=11/\10+2=12/\10+3=13/\10+4=14/\11+1=12/\11+2=13/\11+3=14/\11+4=15/\12+1=13/\12+2=14/\12+3=15/\12+4=16):=by refine ⟨?_,?_,by decide⟩<;>intros<;>simp
theorem jd:type_of% (And.intro evs (And.intro cev jxC)):=And.intro evs (And.intro cev jxC)
open Go Go.RowKit Go.ChangeShapes Go.Deep Go.Proofs.YtdbgbieenhcldaaGreatDoor.Abs
section
variable {P:Program} {t:Nat} {H:Type} {enc:TypeId × Value->H} {w:World} {base:Nat} {spare:Nat->Bool} {held:Bool} {fuel:Nat} {cs:List Value} {x:DataW H × List MemPlace}
end
inductive T where
 | mk (name:List UInt8) (args:List T)
def T.name:T->List UInt8 | .mk n _=>n
def T.args:T->List T | .mk _ us=>us
theorem T.eta (t:T):T.mk t.name t.args=t:=by cases t;rfl
mutual
def jz:T->List A
 | .mk n us=>[sv n,.sl 2 (jcP us)]
def jcP:List T->List (List A)
 | []=>[]
 | t::ts=>jz t::jcP ts
end
theorem jb9:∀ts:List T,jcP ts=ts.map jz
 | []=>rfl
 | t::ts=>by simp [jcP,jb9 ts]
theorem kK (t:T):jz t = [sv t.name,.sl 2 (t.args.map jz)]:=by
 cases t;simp [jz,T.name,T.args,jb9]
abbrev tm (t:T):A:= .agg [sv t.name,.sl 2 (t.args.map jz)]
abbrev jY (ts:List T):A:= .sl 2 (ts.map jz)
theorem jl (t:T):jZ 2 (.elt (jz t) 0)=some (.agg [sv t.name,.sl 2 (t.args.map jz)]):=by rw [kK];rfl
mutual
def tsz:T->Nat
 | .mk n us=>n.length+us.length+yf us
def yf:List T->Nat
 | []=>0
 | t::ts=>tsz t+yf ts
end
theorem kO (t:T):tsz t=t.name.length+t.args.length+yf t.args:=by cases t;simp [tsz,T.name,T.args]
theorem qY:∀ {ts:List T} {t:T},t∈ts->tsz t<=yf ts
 | [],_,h=>by cases h
 | u::us,t,h=>by
  simp only [yf];rcases List.mem_cons.1 h with rfl|h
  ·omega
  ·have:=qY h;omega
mutual
def twf:T->Prop
 | .mk n us=>n.length<=9223372036854775807/\us.length<=9223372036854775807/\joK us
def joK:List T->Prop
 | []=>True
 | t::ts=>twf t/\joK ts
end
theorem kV (t:T):twf t↔t.name.length<=9223372036854775807/\t.args.length<=9223372036854775807/\joK t.args:=by cases t;simp [twf,T.name,T.args]
theorem zw:∀ts:List T,joK ts↔ ∀t∈ts,twf t
 | []=>by simp [joK]
 | t::ts=>by simp [joK,zw ts]
theorem T.ind {p:T->Prop} (h:∀t,(∀u∈t.args,p u)->p t):∀t,p t:=by
 intro t;induction hn:SizeOf.sizeOf t using Nat.strongRecOn generalizing t with
 | ind n ih=>
  subst hn;refine h t λu hu=>ih (SizeOf.sizeOf u) ?_ u rfl;cases t with
  | mk nm us=>
   have:=List.sizeOf_lt_of_mem hu;simp only [T.args] at this;simp only [T.mk.sizeOf_spec];omega
section
variable {P:Program} {tT tS:Nat}
end
structure Ord' where
 syms:List (List UInt8)
 ws:List Int
 var:Int
abbrev jAw (o:Ord'):List A:=[strs o.syms,ints o.ws,vi o.var]
abbrev od (o:Ord'):A:= .agg [strs o.syms,ints o.ws,vi o.var]
def owf (o:Ord'):Prop:=((∀s∈o.syms,s.length<=9223372036854775807)/\o.syms.length<=9223372036854775807)/\((∀x∈o.ws,I64 x)/\o.ws.length<=9223372036854775807)/\I64 o.var
set_option maxHeartbeats 1000000
def jA3 (left n:Int):Int:=if 0<=left - n then left - n else -1
def part {α:Type} (f:α->List A) (z:List A) (xs:List α) (i:Nat):List (List A):=(xs.take i).map f++List.replicate (xs.length - i) z
section
variable {α:Type} {f:α->List A} {z:List A} {xs:List α}
theorem jfI:J1 xs.length z=part f z xs 0:=by simp [part,J1]
theorem jji:part f z xs xs.length=xs.map f:=by simp [part]
theorem jb0 {i:Nat} (h:i<=xs.length):(part f z xs i).length=xs.length:=by simp [part];omega
theorem jjj {i:Nat} (h:i < xs.length):je2 (part f z xs i) i=some z:=by
 unfold je2 part;rw [List.getElem?_append_right (by simp;omega)];simp;rw [List.getElem?_replicate,if_pos (by omega)]
theorem jjk {i:Nat} (h:i < xs.length):J2 (part f z xs i) i (f xs[i])=part f z xs (i+1):=by
 unfold J2 part;have e:xs.length - i=(xs.length - (i+1))+1:=by omega
 rw [List.set_append_right _ _ (by simp;omega),e,List.replicate_succ]
 simp only [List.length_map,List.length_take,Nat.min_eq_left (Nat.le_of_lt h),Nat.sub_self,List.set_cons_zero];rw [<-List.take_append_getElem h,List.map_append];simp
end
theorem jah (a b c d:A):Kh [a,b] 0 [c,d] = [c,d]:=rfl
theorem jbo {b n:Nat} (hb:(b:Int) * (n:Int)<=281474976710656) (hn:n<=1048576):jfG b (vi n) (vi n)=some n:=by
 show (if _ then _ else _)=_;rw [if_pos (show jvo b n n from ⟨by omega,Int.le_refl _,hb,by omega⟩),Int.toNat_natCast]
theorem Yj {k:Nat} {xs:List (List A)} {i:Nat} (h:i<=xs.length):ym k (.sl k xs) none (some (vi i))=some (.sl k (xs.take i)):=by
 simp only [ym,qK,Option.bind_some];rw [if_pos ⟨trivial,Int.le_refl _,by omega,by omega⟩];simp
theorem Yi {k:Nat} {xs:List (List A)} {i:Nat} (h:i<=xs.length):ym k (.sl k xs) (some (vi i)) none=some (.sl k (xs.drop i)):=by
 simp only [ym,qK,Option.bind_some];rw [if_pos ⟨trivial,by omega,by omega,by omega⟩];simp
def jAs (k:Int):Nat->List Int
 | 0=>[]
 | n+1=>k::jAs (k+1) n
section
variable {α:Type} {f:α->List A} (M r:List α) (x:α)
end
section
variable (M R:List (List A)) (x y:List A)
end
def jrI:List (List UInt8)->Nat
 | []=>0
 | s::l=>s.length+jrI l
def osz (o:Ord'):Nat:=o.syms.length+jrI o.syms+o.ws.length
theorem qL {l:List UInt8} {i:Nat} (h:i < l.length):kP (sv l) (vi i)=some (vy (l[i].toNat:Int)):=by
 show (if _ then _ else _)=_;rw [if_pos ⟨by omega,by simpa using h⟩];simp [List.getD_eq_getElem?_getD,h]
theorem zW {c:UInt8} {l:List UInt8} :kP (sv (c::l)) (vi 0)=some (vy (c.toNat:Int)):=qL (i:=0) (l:=c::l) (by simp)
def KD (lo hi x:Int):Bool:=decide (lo<=x) && decide (x<=hi)
theorem Zc (x a b:Int):G 138 [vi x,vi a,vi b]=some (vb (KD a b x),[]):=by
 rw [jzy];by_cases h:a<=x<;>simp only [jd,h,KD,Bool.true_and,Bool.false_and]
theorem Ko (x a b:Int):G 95 [vi x,vi a,vi b]=some (vb (KD a b x),[]):=by
 rw [g95];by_cases h:a<=x<;>simp only [jd,h,KD,Bool.true_and,Bool.false_and]
def upc (c:UInt8):Bool:=KD 65 90 (c.toNat:Int)
def Y8 (c:UInt8):Bool:=KD 97 122 (c.toNat:Int)
def jnz (c:UInt8):Bool:=KD 48 57 (c.toNat:Int)
def yL (c:UInt8):Bool:=Y8 c || jnz c
theorem Qz (c:UInt8):G 180 [vy (c.toNat:Int)]=some (vb (upc c),[]):=by
 rw [jz1];by_cases h:65<=(c.toNat:Int)<;>simp only [jd,h,upc,KD,Bool.true_and,Bool.false_and]
theorem Qx (c:UInt8):G 194 [vy (c.toNat:Int)]=some (vb (Y8 c),[]):=by
 rw [jAd];by_cases h:97<=(c.toNat:Int)<;>simp only [jd,h,Y8,KD,Bool.true_and,Bool.false_and]
theorem jdB (c:UInt8):G 195 [vy (c.toNat:Int)]=some (vb (jnz c),[]):=by
 rw [jAe];by_cases h:48<=(c.toNat:Int)<;>simp only [jd,h,jnz,KD,Bool.true_and,Bool.false_and]
theorem jdP (c:UInt8):G 154 [vy (c.toNat:Int)]=some (vb (yL c),[]):=by
 rw [jzK];by_cases h:97<=(c.toNat:Int)<;>by_cases h2:(c.toNat:Int)<=122<;>by_cases h3:48<=(c.toNat:Int)<;>simp only [jd,h,h2,h3,yL,Y8,jnz,KD,Bool.true_and,Bool.false_and,Bool.or_true,Bool.or_false,Bool.true_or,Bool.false_or]
def jk:List UInt8->Bool
 | []=>false
 | c::r=>upc c && (r.all yL && decide (r.length<=3))
theorem jcD (r:List UInt8) (k:Nat) (hk:k<=9):KD 1 (k+1:Nat) (((r.length+1:Nat)):Int)=decide (r.length<=k):=by
 unfold KD;have:decide ((1:Int)<=((r.length+1:Nat):Int))=true:=by simp;omega
 rw [this,Bool.true_and];by_cases h:r.length<=k<;>simp [h]<;>omega
theorem jcp (s:List UInt8) (hs:s.length<=9223372036854775807):∀i,i<=s.length->1<=i->jc0 (sv s) (vi (s.length:Nat)) (vi i)=some (vb ((s.drop i).all yL && KD 1 4 (s.length:Nat)),[]):=by
 refine upto (P:=λi=>1<=i->jc0 (sv s) (vi (s.length:Nat)) (vi i)=some (vb ((s.drop i).all yL && KD 1 4 (s.length:Nat)),[])) ?_ ?_
 ·intro _;rw [jha,List.drop_length];have e:=Zc (s.length:Nat) 1 4;simp only [jd,e,Bool.true_and]
 ·intro i hi ih h1;have ih:=ih (by omega);have hn:¬((i:Int)=0):=by omega
  have hp:(0:Int) < (i:Int):=by omega
  have hlt:(i:Int) < ((s.length:Nat):Int):=by omega
  have h5:=jr hi hs;have hx:=qL hi;have e1:=Qx s[i];have e2:=jdB s[i];rw [jha,jo hi];generalize s[i]=ch at *;rw [List.all_cons];cases h8:Y8 ch<;>cases h9:jnz ch<;>rw [h8] at e1<;>rw [h9] at e2<;>simp only [jd,hn,hp,hlt,hx,e1,e2,h5,ih,yL,h8,h9,Bool.true_and,Bool.false_and,Bool.or_true,Bool.or_false,Bool.true_or,Bool.false_or]
theorem Ql (s:List UInt8) (hs:s.length<=9223372036854775807):G 175 [sv s]=some (vb (jk s),[]):=by
 rw [jzW];show (Yg (sv s)).bind _=_;rw [Yh,Option.bind_some];cases s with
 | nil=>
  rw [jha];have e:=Zc ((0:Nat):Int) 1 4;simp only [jd,e];rfl
 | cons c r=>
  have key:=jcp (c::r) hs 1 (by simp) (Nat.le_refl _);simp only [List.drop_succ_cons,List.drop_zero] at key;have e':KD 1 4 (((c::r).length:Nat):Int)=decide (r.length<=3):=jcD r 3 (by decide);rw [e'] at key;rw [jha];have h5:jp .add false (vi 0) (vi 1)=some (vi ((1:Nat):Int)):=by rw [JZ,jG (by decide) (by decide)];rfl
  have h6:(0:Int) < (((c::r).length:Nat):Int):=Int.natCast_pos.2 (Nat.succ_pos _);have e1:=Qz c;generalize ((((c::r).length:Nat)):Int)=n at *;cases hu:upc c<;>rw [hu] at e1<;>simp only [jd,h6,zW,e1,h5,key,jk,hu,Bool.true_and,Bool.false_and]
theorem jk5 (s:List UInt8) (hs:s.length<=9223372036854775807):∀i,i<=s.length->jaZ (sv s) (vi i)=some (vb ((s.drop i).all yL),[]):=by
 refine upto (P:=λi=>jaZ (sv s) (vi i)=some (vb ((s.drop i).all yL),[])) ?_ ?_
 ·rw [jp5,List.drop_length];simp only [jd]
 ·intro i hi ih;have hlt:(i:Int) < ((s.length:Nat):Int):=by omega
  have h5:=jr hi hs;have hx:=qL hi;have e1:=jdP s[i];rw [jp5,jo hi];generalize s[i]=ch at *;rw [List.all_cons];cases h8:yL ch<;>rw [h8] at e1<;>simp only [jd,hlt,hx,e1,h5,ih,h8,Bool.true_and,Bool.false_and]
theorem zt (s:List UInt8) (hs:s.length<=9223372036854775807):G 100 [sv s]=some (vb (jk s),[]):=by
 rw [jzb];show (Yg (sv s)).bind _=_;rw [Yh,Option.bind_some];cases s with
 | nil=>
  have e:=Ko ((0:Nat):Int) 1 4;simp only [jd,e];rfl
 | cons c r=>
  have e:=Ko (((c::r).length:Nat):Int) 1 4;have e':KD 1 4 (((c::r).length:Nat):Int)=decide (r.length<=3):=jcD r 3 (by decide);rw [e'] at e;have key:=jk5 (c::r) hs 1 (by simp);simp only [List.drop_succ_cons,List.drop_zero] at key;have key:jaZ (sv (c::r)) (vi 1)=some (vb (r.all yL),[]):=key;generalize ((((c::r).length:Nat)):Int)=n at *;by_cases h3:r.length<=3
  ·rw [decide_eq_true h3] at e;by_cases ha:(c.toNat:Int) < 65
   ·have:¬(65<=(c.toNat:Int)):=by omega
    simp only [jd,e,zW,ha,jk,upc,KD,this,Bool.false_and]
   ·have h65:65<=(c.toNat:Int):=by omega
    by_cases hb:90 < (c.toNat:Int)
    ·have:¬((c.toNat:Int)<=90):=by omega
     simp only [jd,e,zW,ha,hb,jk,upc,KD,this,Bool.false_and,Bool.and_false]
    ·have:(c.toNat:Int)<=90:=by omega
     simp only [jd,e,zW,ha,hb,jk,upc,KD,this,h65,key,h3,Bool.true_and,Bool.and_true]
  ·rw [decide_eq_false h3] at e;simp only [jd,e,jk,h3,Bool.and_false]
def Qs (s:List UInt8):List (List UInt8)->Option Nat
 | []=>none
 | x::l=>if s=x then some 0 else (Qs s l).map (· + 1)
def Qi (i:Nat):Option Nat->Int
 | none=> -1
 | some k=>((i+k:Nat):Int)
theorem jbL (s:List UInt8):∀l,(Qs s l).isSome=l.contains s
 | []=>rfl
 | x::l=>by
  simp only [Qs,List.contains_cons];by_cases h:s=x
  ·simp [h]
  ·have:=jbL s l;simp [h,this]
theorem jg1 (s:List UInt8) (l:List (List UInt8)):decide (0<=Qi 0 (Qs s l))=l.contains s:=by
 rw [<-jbL];cases Qs s l<;>simp [Qi]
theorem jkV {s x:List UInt8} {l:List (List UInt8)} {i:Nat} (h:¬s=x):Qi (i+1) (Qs s l)=Qi i (Qs s (x::l)):=by
 simp only [Qs,h,if_false];cases Qs s l<;>simp [Qi];omega
theorem jkX (l:List (List UInt8)) (s:List UInt8) (hl:l.length<=9223372036854775807):G 199 [strs l,sv s]=some (vi (Qi 0 (Qs s l)),[]):=by
 have key:=upto (P:=λi=>jgH (strs l) (sv s) (vi (l.length:Nat)) (vi i)=some (vi (Qi i (Qs s (l.drop i))),[])) (n:=l.length) ?_ ?_ 0 (Nat.zero_le _)
 ·simp only [Int.natCast_zero,List.drop_zero] at key;rw [jAg];simp only [jd,key]
 ·rw [jqA,List.drop_length];simp only [jd,Qs,Qi]
 ·intro i hi ih;have hlt:(i:Int) < ((l.length:Nat):Int):=by omega
  have h5:=jr hi hl;rw [jqA,jo hi];by_cases h:s=l[i]
  ·simp only [jd,hlt,ja hi,h,Qs,Qi,Nat.add_zero]
  ·simp only [jd,hlt,ja hi,h,h5,ih,jkV h]
theorem Qg (l:List (List UInt8)) (s:List UInt8) (hl:l.length<=9223372036854775807):G 166 [strs l,sv s]=some (vb (l.contains s),[]):=by
 have e:=jkX l s hl;rw [jzR];simp only [jd,e,jg1]
theorem jmG (l:List (List UInt8)) (s:List UInt8) (hl:l.length<=9223372036854775807):G 170 [strs l,sv s]=some (vb (l.contains s),[]):=by
 have key:=upto (P:=λi=>jgB (strs l) (sv s) (vi i)=some (vb ((l.drop i).contains s),[])) (n:=l.length) ?_ ?_ 0 (Nat.zero_le _)
 ·simp only [Int.natCast_zero,List.drop_zero] at key;rw [jzV];exact key
 ·rw [jqu,List.drop_length];simp only [jd,List.contains_nil]
 ·intro i hi ih;have hlt:(i:Int) < ((l.length:Nat):Int):=by omega
  have h5:=jr hi hl;rw [jqu,jo hi,List.contains_cons];by_cases h:l[i]=s
  ·have:(s == l[i])=true:=by simp [h]
   simp only [jd,hlt,ja hi,h,this,Bool.true_or];simp
  ·have:(s == l[i])=false:=by simp;exact λe=>h e.symm
   simp only [jd,hlt,ja hi,h,this,h5,ih,Bool.false_or]
def jjC:List (List UInt8):=[[116,114,117,101],[102,97,108,115,101],[116,114,117,116,104],[98,111,116,104],[101,105,116,104,101,114],[105,102],[97,108,108],[115,111,109,101]]
def jhF (c:UInt8):Bool:=yL c || decide ((c.toNat:Int)=95)
def ye:List UInt8->Bool
 | []=>false
 | c::r=>Y8 c && (r.all jhF && (decide (r.length<=5) && !jjC.contains (c::r)))
theorem jsl (a b:List UInt8):(a == b)=decide (a=b):=by by_cases h:a=b<;>simp [h]
theorem jeZ (s:List UInt8) (hs:s.length<=9223372036854775807):∀i,i<=s.length->1<=i->jcY (sv s) (vi (s.length:Nat)) (vi i)=some (vb ((s.drop i).all jhF && (KD 1 6 (s.length:Nat) && !jjC.contains s)),[]):=by
 refine upto (P:=λi=>1<=i->jcY (sv s) (vi (s.length:Nat)) (vi i)=some (vb ((s.drop i).all jhF && (KD 1 6 (s.length:Nat) && !jjC.contains s)),[])) ?_ ?_
 ·intro _;rw [jg9,List.drop_length];have e:=Zc (s.length:Nat) 1 6;have e2:=Qg jjC s (by decide);have e3:G 196 []=some (strs jjC,[]):=jAf;cases h:KD 1 6 (s.length:Nat)<;>rw [h] at e<;>simp only [jd,e,e2,e3,h,Bool.true_and,Bool.false_and,List.all_nil]
 ·intro i hi ih h1;have ih:=ih (by omega);have hn:¬((i:Int)=0):=by omega
  have hlt:(i:Int) < ((s.length:Nat):Int):=by omega
  have h5:=jr hi hs;have hx:=qL hi;have e1:=Qx s[i];have e2:=jdB s[i];rw [jg9,jo hi];generalize s[i]=ch at *;rw [List.all_cons];cases h7:decide ((ch.toNat:Int)=95)<;>cases h8:Y8 ch<;>cases h9:jnz ch<;>rw [h8] at e1<;>rw [h9] at e2<;>
   simp only [jd,hn,hlt,hx,e1,e2,h5,ih,jhF,yL,h7,h8,h9,Bool.true_and,Bool.false_and,Bool.or_true,Bool.or_false,Bool.true_or,Bool.false_or]
theorem jbO (s:List UInt8) (hs:s.length<=9223372036854775807):G 159 [sv s]=some (vb (ye s),[]):=by
 rw [jzO];show (Yg (sv s)).bind _=_;rw [Yh,Option.bind_some];cases s with
 | nil=>
  rw [jg9];have e:G 138 [vi ((0:Nat):Int),vi 1,vi 6]=some (vb false,[]):=Zc ((0:Nat):Int) 1 6;simp only [jd,e];rfl
 | cons c r=>
  have key:=jeZ (c::r) hs 1 (by simp) (Nat.le_refl _);simp only [List.drop_succ_cons,List.drop_zero] at key;have e':KD 1 6 (((c::r).length:Nat):Int)=decide (r.length<=5):=jcD r 5 (by decide);rw [e'] at key;rw [jg9];have h5:jp .add false (vi 0) (vi 1)=some (vi ((1:Nat):Int)):=by rw [JZ,jG (by decide) (by decide)];rfl
  have h6:(0:Int) < (((c::r).length:Nat):Int):=Int.natCast_pos.2 (Nat.succ_pos _);have e1:=Qx c;generalize ((((c::r).length:Nat)):Int)=n at *;cases hu:Y8 c<;>rw [hu] at e1<;>simp only [jd,h6,zW,e1,h5,key,ye,hu,Bool.true_and,Bool.false_and]
theorem je0 (s:List UInt8) (hs:s.length<=9223372036854775807):∀i,i<=s.length->qE (sv s) (vi i)=some (vb ((s.drop i).all jhF),[]):=by
 refine upto (P:=λi=>qE (sv s) (vi i)=some (vb ((s.drop i).all jhF),[])) ?_ ?_
 ·rw [jqd,List.drop_length];simp only [jd]
 ·intro i hi ih;have hlt:(i:Int) < ((s.length:Nat):Int):=by omega
  have h5:=jr hi hs;have hx:=qL hi;have e1:=jdP s[i];rw [jqd,jo hi];generalize s[i]=ch at *;rw [List.all_cons];cases h7:decide ((ch.toNat:Int)=95)<;>cases h8:yL ch<;>rw [h8] at e1<;>simp only [jd,hlt,hx,e1,h5,ih,jhF,h7,h8,Bool.true_and,Bool.false_and,Bool.or_true,Bool.or_false,Bool.true_or,Bool.false_or]
theorem Z8 (s:List UInt8) (hs:s.length<=9223372036854775807):G 124 [sv s]=some (vb (ye s),[]):=by
 rw [jzp];show (Yg (sv s)).bind _=_;rw [Yh,Option.bind_some];cases s with
 | nil=>
  have e:G 95 [vi ((0:Nat):Int),vi 1,vi 6]=some (vb false,[]):=Ko ((0:Nat):Int) 1 6;simp only [jd,e];rfl
 | cons c r=>
  have e:=Ko (((c::r).length:Nat):Int) 1 6;have e':KD 1 6 (((c::r).length:Nat):Int)=decide (r.length<=5):=jcD r 5 (by decide);rw [e'] at e;have key:=je0 (c::r) hs 1 (by simp);simp only [List.drop_succ_cons,List.drop_zero] at key;have key:qE (sv (c::r)) (vi 1)=some (vb (r.all jhF),[]):=key;generalize ((((c::r).length:Nat)):Int)=n at *;have hres:jjC.contains (c::r)=(decide (c::r = [116,114,117,101]) || (decide (c::r = [102,97,108,115,101]) || (decide (c::r = [116,114,117,116,104]) || (decide (c::r = [98,111,116,104]) || (decide (c::r = [101,105,116,104,101,114]) || (decide (c::r = [105,102]) || (decide (c::r = [97,108,108]) || decide (c::r = [115,111,109,101])))))))):=by
   simp only [jjC,List.contains_cons,List.contains_nil,Bool.or_false,jsl]
  by_cases h3:r.length<=5
  ·rw [decide_eq_true h3] at e;by_cases ha:(c.toNat:Int) < 97
   ·have:¬(97<=(c.toNat:Int)):=by omega
    simp only [jd,e,zW,ha,ye,Y8,KD,this,Bool.false_and]
   ·have h65:97<=(c.toNat:Int):=by omega
    by_cases hb:122 < (c.toNat:Int)
    ·have:¬((c.toNat:Int)<=122):=by omega
     simp only [jd,e,zW,ha,hb,ye,Y8,KD,this,Bool.false_and,Bool.and_false]
    ·have h122:(c.toNat:Int)<=122:=by omega
     have e0:ye (c::r)=(r.all jhF && !jjC.contains (c::r)):=by
      simp [ye,Y8,KD,h65,h122,h3]
     rw [e0,hres];have hx0:=zW (c:=c) (l:=r);clear hres e0;generalize c::r=s at *;cases q0:decide (s = [116,114,117,101]);rotate_left
     ·simp only [jd,e,hx0,ha,hb,q0,Bool.true_or,Bool.false_or,Bool.and_false]
     cases q1:decide (s = [102,97,108,115,101]);rotate_left
     ·simp only [jd,e,hx0,ha,hb,q0,q1,Bool.true_or,Bool.false_or,Bool.and_false]
     cases q2:decide (s = [116,114,117,116,104]);rotate_left
     ·simp only [jd,e,hx0,ha,hb,q0,q1,q2,Bool.true_or,Bool.false_or,Bool.and_false]
     cases q3:decide (s = [98,111,116,104]);rotate_left
     ·simp only [jd,e,hx0,ha,hb,q0,q1,q2,q3,Bool.true_or,Bool.false_or,Bool.and_false]
     cases q4:decide (s = [101,105,116,104,101,114]);rotate_left
     ·simp only [jd,e,hx0,ha,hb,q0,q1,q2,q3,q4,Bool.true_or,Bool.false_or,Bool.and_false]
     cases q5:decide (s = [105,102]);rotate_left
     ·simp only [jd,e,hx0,ha,hb,q0,q1,q2,q3,q4,q5,Bool.true_or,Bool.false_or,Bool.and_false]
     cases q6:decide (s = [97,108,108]);rotate_left
     ·simp only [jd,e,hx0,ha,hb,q0,q1,q2,q3,q4,q5,q6,Bool.true_or,Bool.false_or,Bool.and_false]
     cases q7:decide (s = [115,111,109,101]);rotate_left
     ·simp only [jd,e,hx0,ha,hb,q0,q1,q2,q3,q4,q5,q6,q7,Bool.true_or,Bool.false_or,Bool.and_false]
     simp only [jd,e,hx0,ha,hb,q0,q1,q2,q3,q4,q5,q6,q7,Bool.true_or,Bool.false_or,Bool.and_true,Bool.or_false,key]
  ·rw [decide_eq_false h3] at e;simp only [jd,e,ye,h3,Bool.false_and,Bool.and_false]
mutual
def nodes:T->Nat
 | .mk _ us=>1+jD us
def jD:List T->Nat
 | []=>0
 | t::ts=>nodes t+jD ts
end
theorem jP (t:T):nodes t=1+jD t.args:=by cases t;rfl
mutual
def yI:T->Nat
 | .mk _ us=>1+KB us
def KB:List T->Nat
 | []=>0
 | t::ts=>max (yI t) (KB ts)
end
theorem JW (t:T):yI t=1+KB t.args:=by cases t;rfl
mutual
def z6:T->Bool
 | .mk n us=>if jk n then us.isEmpty else ye n && (decide (us.length<=4) && jea us)
def jea:List T->Bool
 | []=>true
 | t::ts=>z6 t && jea ts
end
theorem yd (t:T):z6 t=if jk t.name then t.args.isEmpty else ye t.name && (decide (t.args.length<=4) && jea t.args):=by cases t;rfl
theorem qo:∀ts,jea ts=ts.all z6
 | []=>rfl
 | t::ts=>by rw [jea,qo ts,List.all_cons]
theorem Yc:∀t:T,nodes t<=1+tsz t:=by
 refine T.ind λt ih=> ?_;have:∀ts:List T,(∀u∈ts,nodes u<=1+tsz u)->jD ts<=ts.length+yf ts:=by
  intro ts;induction ts with
  | nil=>intro _;simp [jD]
  | cons u us ih=>
   intro h;have h1:=h u (by simp);have h2:=ih λv hv=>h v (by simp [hv]);simp only [jD,yf,List.length_cons];omega
 have h:=this t.args ih;rw [jP,kO];omega
theorem K1 (t:T):1<=nodes t:=by rw [jP];omega
theorem Zp {ts:List T} {t:T} (h:t∈ts):nodes t<=jD ts:=by
 induction ts with
 | nil=>cases h
 | cons u us ih=>
  simp only [jD];rcases List.mem_cons.1 h with rfl|h
  ·omega
  ·have:=ih h;omega
theorem jkI:∀t:T,yI t<=nodes t:=by
 refine T.ind λt ih=> ?_;have:∀ts:List T,(∀u∈ts,yI u<=nodes u)->KB ts<=jD ts:=by
  intro ts;induction ts with
  | nil=>intro _;simp [KB]
  | cons u us ih=>
   intro h;have h1:=h u (by simp);have h2:=ih λv hv=>h v (by simp [hv]);simp only [jD,KB];omega
 have h:=this t.args ih;rw [jP,JW];omega
theorem jov (ts:List T) (hl:ts.length<=9223372036854775807) (hn:jD ts<=1048577) (ih:∀t∈ts,∃r:Nat,G 190 [tm t]=some (vi r,[])/\r<=nodes t/\(nodes t<=30->r=nodes t)/\(30 < nodes t->30 < r)) :
  ∀i,i<=ts.length-> ∀a:Nat,a+jD (ts.drop i)<=1048578-> ∃r:Nat,jgF (vi a) (jY ts) (vi (ts.length:Nat)) (vi i)=some (vi r,[])/\r<=a+jD (ts.drop i)/\(a+jD (ts.drop i)<=30->r=a+jD (ts.drop i))/\(30 < a+jD (ts.drop i)->30 < r):=by
 refine upto ?_ ?_
 ·intro a ha;rw [jk3,List.drop_length];simp only [jd,jD,Nat.add_zero];exact ⟨a,rfl,Nat.le_refl _,λ_=>rfl,λh=>h⟩
 ·intro i hi ih' a ha;have hlt:(i:Int) < ((ts.length:Nat):Int):=by omega
  have h5:=jr hi hl;rw [jo hi] at ha ⊢;simp only [jD] at ha ⊢;obtain ⟨r1,e1,b1,b2,b3⟩:=ih ts[i] (List.getElem_mem _);by_cases hc:(30:Int) < (a:Int)
  ·refine ⟨a,?_,by omega,by omega,by omega⟩;rw [jk3];simp only [jd,hlt,ja hi,jl,hc]
  ·have hk:ck ((a:Int)+(r1:Int))=some (vi ((a+r1:Nat):Int)):=by rw [jG (by omega) (by omega)];rfl
   obtain ⟨r2,e2,c1,c2,c3⟩:=ih' (a+r1) (by omega);refine ⟨r2,?_,by omega,by omega,by omega⟩;rw [jk3];simp only [jd,hlt,ja hi,jl,hc,e1,hk,h5,e2]
theorem size_eq:∀t:T,twf t->tsz t<=1048576-> ∃r:Nat,G 190 [tm t]=some (vi r,[])/\r<=nodes t/\(nodes t<=30->r=nodes t)/\(30 < nodes t->30 < r):=by
 refine T.ind λt ih hw hs=> ?_;obtain ⟨w1,w2,w3⟩:=(kV t).1 hw;have w3:=(zw _).1 w3;have hn:=Yc t;rw [jP] at hn;rw [kO] at hs;obtain ⟨r,h1,h2,h3,h4⟩:=jov t.args w2 (by rw [kO] at hn;omega) (λu hu=>ih u hu (w3 u hu) (by have:=qY hu;omega)) 0 (Nat.zero_le _) 1 (by rw [kO] at hn;simp;omega);simp only [List.drop_zero,Int.natCast_zero,Int.natCast_one] at h1 h2 h3 h4;refine ⟨r,?_,by rw [jP];exact h2,by rw [jP];exact h3,by rw [jP];exact h4⟩;rw [jz9];simp only [jd,h1]
theorem jnV (n:List UInt8) (most:Int) (hm1: -1048600<=most) (hm:most<=1048576) (ts:List T) (hl:ts.length<=9223372036854775807) (ih:∀t∈ts,∀m:Int,-1048600<=m->m<=1048576-> ∃r:Nat,G 167 [tm t,vi m]=some (vi r,[])/\1<=r/\r<=nodes t/\((nodes t:Int)<=m->r=nodes t)/\(m < nodes t->m < r)) :
  ∀i,i<=ts.length-> ∀a:Nat,1<=a->a+jD (ts.drop i)<=1048578-> ∃r:Nat,jgz (vi most) (vi a) (vi i) (sv n) (jY ts)=some (vi r,[])/\1<=r/\r<=a+jD (ts.drop i)/\(((a+jD (ts.drop i):Nat):Int)<=most->r=a+jD (ts.drop i))/\(most < ((a+jD (ts.drop i):Nat):Int)->most < r):=by
 refine upto ?_ ?_
 ·intro a h1 ha;rw [jk2,List.drop_length];simp only [jd,jD,Nat.add_zero];exact ⟨a,rfl,h1,Nat.le_refl _,λ_=>rfl,λh=>h⟩
 ·intro i hi ih' a h1 ha;have hlt:(i:Int) < ((ts.length:Nat):Int):=by omega
  have h5:=jr hi hl;rw [jo hi] at ha ⊢;simp only [jD] at ha ⊢;by_cases hc:(a:Int)<=most
  ·obtain ⟨r1,e1,b0,b1,b2,b3⟩:=ih ts[i] (List.getElem_mem _) (most - a) (by omega) (by omega);have hk0:ck (most - (a:Int))=some (vi (most - a)):=jG (by omega) (by omega);have hk:ck ((a:Int)+(r1:Int))=some (vi ((a+r1:Nat):Int)):=by rw [jG (by omega) (by omega)];rfl
   obtain ⟨r2,e2,c0,c1,c2,c3⟩:=ih' (a+r1) (by omega) (by omega);refine ⟨r2,?_,by omega,by omega,by omega,by omega⟩;rw [jk2];simp only [jd,hlt,ja hi,jl,hc,hk0,e1,hk,h5,e2]
  ·refine ⟨a,?_,h1,by omega,by omega,by omega⟩;rw [jk2];simp only [jd,hlt,hc]
theorem jtn:∀t:T,twf t->tsz t<=1048576-> ∀m:Int,-1048600<=m->m<=1048576-> ∃r:Nat,G 167 [tm t,vi m]=some (vi r,[])/\1<=r/\r<=nodes t/\((nodes t:Int)<=m->r=nodes t)/\(m < nodes t->m < r):=by
 refine T.ind λt ih hw hs m hm1 hm=> ?_;obtain ⟨w1,w2,w3⟩:=(kV t).1 hw;have w3:=(zw _).1 w3;have hn:=Yc t;rw [jP] at hn;obtain ⟨r,h1,h0,h2,h3,h4⟩:=jnV t.name m hm1 hm t.args w2 (λu hu m h1 h2=>ih u hu (w3 u hu) (by have:=qY hu;rw [kO] at hs;omega) m h1 h2) 0 (Nat.zero_le _) 1 (Nat.le_refl _) (by simp;omega);simp only [List.drop_zero,Int.natCast_zero,Int.natCast_one] at h1 h2 h3 h4;refine ⟨r,?_,h0,by rw [jP];exact h2,by rw [jP];exact h3,by rw [jP];exact h4⟩;rw [jzS];simp only [jd,h1]
theorem jkJ (ts:List T) (hl:ts.length<=9223372036854775807) (hn:jD ts<=1048577) (ih:∀t∈ts,G 191 [tm t]=some (vi (yI t:Nat),[])) :
  ∀i,i<=ts.length-> ∀a:Nat,a<=1048577->jgG (vi a) (jY ts) (vi (ts.length:Nat)) (vi i)=some (vi ((max a (KB (ts.drop i))+1:Nat):Int),[]):=by
 refine upto ?_ ?_
 ·intro a ha;have hk:ck ((a:Int)+1)=some (vi ((a+1:Nat):Int)):=by rw [jG (by omega) (by omega)];rfl
  rw [jqz,List.drop_length];simp only [jd,KB,hk,Nat.max_zero]
 ·intro i hi ih' a ha;have hlt:(i:Int) < ((ts.length:Nat):Int):=by omega
  have h5:=jr hi hl;have e1:=ih ts[i] (List.getElem_mem _);have hd:yI ts[i]<=1048577:=Nat.le_trans (jkI _) (Nat.le_trans (Zp (List.getElem_mem hi)) hn);have hmx:(if (a:Int) < ((yI ts[i]:Nat):Int) then ((yI ts[i]:Nat):Int) else (a:Int))=((max a (yI ts[i]):Nat):Int):=by split<;>omega
  have ih':=ih' (max a (yI ts[i])) (by omega);rw [jqz,jo hi];simp only [jd,hlt,ja hi,jl,e1,hmx,h5,ih',KB,Nat.max_assoc]
theorem jpA:∀t:T,twf t->tsz t<=1048576->G 191 [tm t]=some (vi (yI t:Nat),[]):=by
 refine T.ind λt ih hw hs=> ?_;obtain ⟨w1,w2,w3⟩:=(kV t).1 hw;have w3:=(zw _).1 w3;have hn:=Yc t;rw [jP] at hn;have h1:=jkJ t.args w2 (by omega) (λu hu=>ih u hu (w3 u hu) (by have:=qY hu;rw [kO] at hs;omega)) 0 (Nat.zero_le _) 0 (by omega);simp only [List.drop_zero,Int.natCast_zero,Nat.zero_max] at h1;rw [jAa,JW,Nat.add_comm];simp only [jd,h1]
theorem jtq (a b:Nat):G 94 [vi a,vi b]=some (vi ((max a b:Nat):Int),[]):=by
 rw [g94];by_cases h:(b:Int) < (a:Int)
 ·simp only [jd,h];rw [Nat.max_eq_left (by omega)]
 ·simp only [jd,h];rw [Nat.max_eq_right (by omega)]
theorem jhc (n:List UInt8) (ts:List T) (hl:ts.length<=9223372036854775807) (hn:jD ts<=1048577) (ih:∀t∈ts,G 168 [tm t]=some (vi (yI t:Nat),[])) :
  ∀i,i<=ts.length-> ∀a:Nat,a<=1048577->jgA (vi a) (vi i) (sv n) (jY ts)=some (vi ((max a (KB (ts.drop i))+1:Nat):Int),[]):=by
 refine upto ?_ ?_
 ·intro a ha;have hk:ck ((a:Int)+1)=some (vi ((a+1:Nat):Int)):=by rw [jG (by omega) (by omega)];rfl
  rw [jqt,List.drop_length];simp only [jd,KB,hk,Nat.max_zero]
 ·intro i hi ih' a ha;have hlt:(i:Int) < ((ts.length:Nat):Int):=by omega
  have h5:=jr hi hl;have e1:=ih ts[i] (List.getElem_mem _);have e2:=jtq a (yI ts[i]);have hd:yI ts[i]<=1048577:=Nat.le_trans (jkI _) (Nat.le_trans (Zp (List.getElem_mem hi)) hn);have ih':=ih' (max a (yI ts[i])) (by omega);rw [jqt,jo hi];simp only [jd,hlt,ja hi,jl,e1,e2,h5,ih',KB,Nat.max_assoc]
theorem jk4:∀t:T,twf t->tsz t<=1048576->G 168 [tm t]=some (vi (yI t:Nat),[]):=by
 refine T.ind λt ih hw hs=> ?_;obtain ⟨w1,w2,w3⟩:=(kV t).1 hw;have w3:=(zw _).1 w3;have hn:=Yc t;rw [jP] at hn;have h1:=jhc t.name t.args w2 (by omega) (λu hu=>ih u hu (w3 u hu) (by have:=qY hu;rw [kO] at hs;omega)) 0 (Nat.zero_le _) 0 (by omega);simp only [List.drop_zero,Int.natCast_zero,Nat.zero_max] at h1;rw [jzT,JW,Nat.add_comm];simp only [jd,h1]
def jE (t:T):Bool:=decide (nodes t<=30) && decide (yI t<=8)
def kW (t:T):Bool:=jE t && z6 t
theorem Qy (t:T) (hw:twf t) (hs:tsz t<=1048576):G 157 [tm t]=some (vb (jE t),[]):=by
 obtain ⟨r,h1,h2,h3,h4⟩:=size_eq t hw hs;have hd:=jpA t hw hs;rw [jzM];by_cases h:nodes t<=30
 ·have:(r:Int)<=30:=by have:=h3 h;omega
  have e:decide (((yI t:Nat):Int)<=8)=decide (yI t<=8):=by congr 1;exact propext (by omega)
  simp only [jd,h1,hd,this,jE,h,e,Bool.true_and]
 ·have:¬(r:Int)<=30:=by have:=h4 (by omega);omega
  simp only [jd,h1,this,jE,h,Bool.false_and]
theorem jft (t:T) (hw:twf t) (hs:tsz t<=1048576):G 122 [tm t]=some (vb (jE t),[]):=by
 obtain ⟨r,h1,h0,h2,h3,h4⟩:=jtn t hw hs 30 (by decide) (by decide);have hd:=jk4 t hw hs;rw [jzn];by_cases h:nodes t<=30
 ·have:(r:Int)<=30:=by have:=h3 (by omega);omega
  have e:decide (((yI t:Nat):Int)<=8)=decide (yI t<=8):=by congr 1;exact propext (by omega)
  simp only [jd,h1,hd,this,jE,h,e,Bool.true_and]
 ·have:¬(r:Int)<=30:=by have:=h4 (by omega);omega
  simp only [jd,h1,this,jE,h,Bool.false_and]
theorem jcn {f:FuncId} {caps:List A} (hsig:K.pureF f=true) (p:T->Bool) (ts:List T) (hl:ts.length<=9223372036854775807) (h:∀t∈ts,G f (tm t::caps)=some (vb (p t),[])) :
  ∃r:Int,G 215 [jY ts,.fn f caps]=some (vi r,[])/\decide (0<=r)=ts.any p:=by
 have key:=upto (P:=λi=>∃r:Int,jgK (jY ts) (.fn f caps) (vi (ts.length:Nat)) (vi i)=some (vi r,[])/\decide (0<=r)=(ts.drop i).any p) (n:=ts.length) ?_ ?_ 0 (Nat.zero_le _)
 ·obtain ⟨r,h1,h2⟩:=key;simp only [Int.natCast_zero,List.drop_zero] at h1 h2;refine ⟨r,?_,h2⟩;rw [jAm];simp only [jd,h1]
 ·refine ⟨-1,?_,by simp⟩;rw [jqG];simp only [jd]
 ·intro i hi ih;obtain ⟨r,h1,h2⟩:=ih;have hlt:(i:Int) < ((ts.length:Nat):Int):=by omega
  have h5:=jr hi hl;have e1:=h ts[i] (List.getElem_mem _);rw [jqG,jo hi,List.any_cons];cases hp:p ts[i]<;>rw [hp] at e1
  ·refine ⟨r,?_,by rw [h2,Bool.false_or]⟩;simp only [jd,hlt,ja hi,jl,yN hsig,List.cons_append,List.nil_append,e1,h5,h1]
  ·refine ⟨i,?_,by simp⟩;simp only [jd,hlt,ja hi,jl,yN hsig,List.cons_append,List.nil_append,e1]
theorem jdm {f:FuncId} {caps:List A} (hsig:K.pureF f=true) (p:T->Bool) (ts:List T) (hl:ts.length<=9223372036854775807) (h:∀t∈ts,G f (tm t::caps)=some (vb (p t),[])) :
  G 192 [jY ts,.fn f caps]=some (vb (ts.any p),[]):=by
 obtain ⟨r,h1,h2⟩:=jcn hsig p ts hl h;rw [jAb];simp only [jd,h1,h2]
theorem jia (p:T->Bool) (ts:List T):(ts.any λt=> !p t)=!ts.all p:=by
 induction ts with
 | nil=>rfl
 | cons t ts ih=>rw [List.any_cons,List.all_cons,ih];cases p t<;>rfl
theorem ZZ:∀t:T,twf t->G 158 [tm t]=some (vb (z6 t),[]):=by
 refine T.ind λt ih hw=> ?_;obtain ⟨w1,w2,w3⟩:=(kV t).1 hw;have w3:=(zw _).1 w3;have e1:=Ql t.name w1;have e2:=jbO t.name w1;have e3:=jdm (f:=193) (caps:=[]) rfl (λu=> !z6 u) t.args w2 (λu hu=>by
  have:=ih u hu (w3 u hu);rw [jAc];simp only [jd,this])
 rw [jia,<-qo] at e3;rw [jzN,yd];have e4:decide (((t.args.length:Nat):Int)=0)=t.args.isEmpty:=by cases t.args<;>simp;omega
 have e5:decide (((t.args.length:Nat):Int)<=4)=decide (t.args.length<=4):=by congr 1;exact propext (by omega)
 cases hv:jk t.name<;>rw [hv] at e1
 ·cases hy:ye t.name<;>rw [hy] at e2
  ·simp only [jd,e1,e2,Bool.false_and]
  ·cases ha:decide (t.args.length<=4)<;>rw [ha] at e5
   ·simp only [jd,e1,e2,e5,Bool.false_and,Bool.true_and]
   ·simp only [jd,e1,e2,e5,e3,Bool.true_and,Bool.not_not]
 ·simp only [jd,e1,e4]
theorem QB:∀t:T,twf t->G 123 [tm t]=some (vb (z6 t),[]):=by
 refine T.ind λt ih hw=> ?_;obtain ⟨w1,w2,w3⟩:=(kV t).1 hw;have w3:=(zw _).1 w3;have e1:=zt t.name w1;have e2:=Z8 t.name w1;have key:=upto (P:=λi=>jgo (vi i) (sv t.name) (jY t.args)=some (vb (jea (t.args.drop i)),[])) (n:=t.args.length) ?_ ?_ 0 (Nat.zero_le _)
 ·simp only [Int.natCast_zero,List.drop_zero] at key;rw [jzo,yd];have e4:decide (((t.args.length:Nat):Int)=0)=t.args.isEmpty:=by cases t.args<;>simp;omega
  cases hv:jk t.name<;>rw [hv] at e1
  ·cases hy:ye t.name<;>rw [hy] at e2
   ·simp only [jd,e1,e2,Bool.false_and]
   ·by_cases ha:4 < ((t.args.length:Nat):Int)
    ·have:¬t.args.length<=4:=by omega
     simp only [jd,e1,e2,ha,this,Bool.false_and,Bool.and_false]
    ·have:t.args.length<=4:=by omega
     simp only [jd,e1,e2,ha,this,key,Bool.true_and]
  ·simp only [jd,e1,e4]
 ·rw [jqc,List.drop_length];simp only [jd,jea]
 ·intro i hi ih';have hlt:(i:Int) < ((t.args.length:Nat):Int):=by omega
  have h5:=jr hi w2;have e3:=ih t.args[i] (List.getElem_mem _) (w3 _ (List.getElem_mem _));rw [jqc,jo hi,jea];cases hp:z6 t.args[i]<;>rw [hp] at e3
  ·simp only [jd,hlt,ja hi,jl,e3,Bool.false_and]
  ·simp only [jd,hlt,ja hi,jl,e3,h5,ih',Bool.true_and]
theorem Z4 (t:T) (hw:twf t) (hs:tsz t<=1048576):G 160 [tm t]=some (vb (kW t),[]):=by
 have e1:=Qy t hw hs;have e2:=ZZ t hw;rw [jzP,kW];cases h:jE t<;>rw [h] at e1<;>simp only [jd,e1,e2,Bool.true_and,Bool.false_and]
theorem YO (t:T) (hw:twf t) (hs:tsz t<=1048576):G 125 [tm t]=some (vb (kW t),[]):=by
 have e1:=jft t hw hs;have e2:=QB t hw;rw [jzq,kW];cases h:jE t<;>rw [h] at e1<;>simp only [jd,e1,e2,Bool.true_and,Bool.false_and]
def jy8 (o:Ord') (i:Nat):Bool:=ye (o.syms.getD i []) && (!(o.syms.take i).contains (o.syms.getD i []) && KD o.var 100 (o.ws.getD i 0))
def jlL (o:Ord'):Bool:=KD 1 12 (o.syms.length:Nat) && (decide (o.ws.length=o.syms.length) && (KD 1 100 o.var && (List.range o.syms.length).all (jy8 o)))
mutual
def jsw (l:List (List UInt8)):T->Bool
 | .mk n us=>(jk n || l.contains n) && juj l us
def juj (l:List (List UInt8)):List T->Bool
 | []=>true
 | t::ts=>jsw l t && juj l ts
end
theorem zE {t:T} (h:z6 t=true):∀u∈t.args,z6 u=true:=by
 rw [yd] at h;intro u hu;split at h
 ·rw [List.isEmpty_iff.1 h] at hu;cases hu
 ·simp only [Bool.and_eq_true] at h;rw [qo] at h;exact List.all_eq_true.1 h.2.2 u hu
theorem jq1 {t:T} (h:z6 t=true):∃c r,t.name=c::r/\jk t.name=upc c/\(upc c=false->ye t.name=true):=by
 rw [yd] at h;cases hn:t.name with
 | nil=>rw [hn] at h;simp [jk,ye] at h
 | cons c r=>
  refine ⟨c,r,rfl,?_,?_⟩
  ·rw [hn] at h;cases hu:upc c with
   | false=>simp [jk,hu]
   | true=>
    cases hv:jk (c::r) with
    | true=>rfl
    | false=>
     rw [hv] at h;have:Y8 c=false:=by
      simp only [upc,KD,Y8,Bool.and_eq_true,decide_eq_true_eq] at hu ⊢;have:¬(97<=(c.toNat:Int)):=by omega
      simp [this]
     simp [ye,this] at h
  ·intro hu;rw [hn] at h;have:jk (c::r)=false:=by simp [jk,hu]
   rw [this] at h;simp at h;exact h.1
theorem jp1 (t:T) (h:z6 t=true):G 141 [tm t]=some (vb (jk t.name),[]):=by
 obtain ⟨c,r,hn,hv,_⟩:=jq1 h;have e1:=Qz c;rw [<-hv] at e1;rw [jxF];have hx:kP (sv t.name) (vi 0)=some (vy (c.toNat:Int)):=by rw [hn];exact zW
 simp only [jd,hx,e1]
def good (o:Ord') (t:T):Bool:=kW t && jsw o.syms t
def jAE (o:Ord') (n:List UInt8):Int:=match Qs n o.syms with|some k=>o.ws.getD k 0|none=>0
mutual
def wt (o:Ord'):T->Int
 | .mk n us=>(if jk n then o.var else jAE o n)+wtL o us
def wtL (o:Ord'):List T->Int
 | []=>0
 | t::ts=>wt o t+wtL o ts
end
def jwG (o:Ord') (t:T):A:=if jlL o && good o t then .tup [vi (wt o t),vb true] else .tup [vi 0,vb false]
noncomputable def dq {α:Type} (a b:α):Bool:=@decide (a=b) (Classical.propDecidable _)
theorem qk {α:Type} {a b:α} :dq a b=true↔a=b:=by unfold dq;exact @decide_eq_true_iff _ (Classical.propDecidable _)
theorem jdo {α:Type} {a b:α} :dq a b=false↔ ¬a=b:=by unfold dq;exact @decide_eq_false_iff_not _ (Classical.propDecidable _)
theorem jak {α:Type} (a:α):dq a a=true:=qk.2 rfl
theorem jcC {α:Type} (a b:α) (l r:List α):dq (a::l) (b::r)=(dq a b && dq l r):=by
 rw [Bool.eq_iff_iff,Bool.and_eq_true,qk,qk,qk,List.cons.injEq]
theorem jxx (s t:T):dq s t=(decide (s.name=t.name) && dq s.args t.args):=by
 cases s with
 | mk n us=>cases t with
  | mk m vs=>rw [Bool.eq_iff_iff,Bool.and_eq_true,qk,qk,decide_eq_true_iff,T.mk.injEq];rfl
theorem jgY {α:Type} {a b:List α} (h:¬a.length=b.length):dq a b=false:=jdo.2 λe=>h (by rw [e])
theorem jcl (ts us:List T) (hl:ts.length<=9223372036854775807) (hlen:ts.length=us.length) (ih:∀t∈ts,∀u∈us,G 140 [tm t,tm u]=some (vb (dq t u),[])) :
  ∀i,i<=ts.length->jgD (jY us) (.fn 140 []) (jY ts) (vi (ts.length:Nat)) (vi i)=some (vb (dq (ts.drop i) (us.drop i)),[]):=by
 refine upto ?_ ?_
 ·rw [jqx,List.drop_length,hlen,List.drop_length,jak];simp only [jd]
 ·intro i hi ih';have hlt:(i:Int) < ((ts.length:Nat):Int):=by omega
  have hi2:i < us.length:=by omega
  have h5:=jr hi hl;have e1:=ih ts[i] (List.getElem_mem _) us[i] (List.getElem_mem _);rw [jqx,jo hi,jo hi2,jcC];cases hp:dq ts[i] us[i]<;>rw [hp] at e1
  ·simp only [jd,hlt,ja hi,ja hi2,jl,yN (f:=140) rfl,List.append_nil,e1,Bool.false_and]
  ·simp only [jd,hlt,ja hi,ja hi2,jl,yN (f:=140) rfl,List.append_nil,e1,h5,ih',Bool.true_and]
theorem yO:∀s:T,twf s-> ∀t:T,twf t->G 140 [tm s,tm t]=some (vb (dq s t),[]):=by
 refine T.ind λs ih hw t hw'=> ?_;obtain ⟨w1,w2,w3⟩:=(kV s).1 hw;have w3:=(zw _).1 w3;obtain ⟨v1,v2,v3⟩:=(kV t).1 hw';have v3:=(zw _).1 v3;rw [jzA,jxx];by_cases hn:s.name=t.name
 ·have e:G 179 [jY s.args,jY t.args,.fn 140 []]=some (vb (dq s.args t.args),[]):=by
   rw [jz0];by_cases hlen:s.args.length=t.args.length
   ·have key:=jcl s.args t.args w2 hlen (λa ha b hb=>ih a ha (w3 a ha) b (v3 b hb)) 0 (Nat.zero_le _);simp only [Int.natCast_zero,List.drop_zero] at key;rw [hlen] at key;simp only [jd,hlen,key]
   ·have hlen':¬((s.args.length:Nat):Int)=((t.args.length:Nat):Int):=by omega
    simp only [jd,hlen',jgY hlen]
  simp only [jd,hn,e,Bool.true_and]
 ·simp only [jd,hn,Bool.false_and]
theorem jiP (n m:List UInt8) (ts us:List T) (hl:ts.length<=9223372036854775807) (hlen:ts.length=us.length) (ih:∀t∈ts,∀u∈us,G 151 [tm t,tm u]=some (vb (dq t u),[])) :
  ∀i,i<=ts.length->jgw (vi i) (sv n) (jY ts) (sv m) (jY us)=some (vb (dq (ts.drop i) (us.drop i)),[]):=by
 refine upto ?_ ?_
 ·rw [jqq,List.drop_length,hlen,List.drop_length,jak];simp only [jd,hlen]
 ·intro i hi ih';have hlt:(i:Int) < ((ts.length:Nat):Int):=by omega
  have hi2:i < us.length:=by omega
  have h5:=jr hi hl;have e1:=ih ts[i] (List.getElem_mem _) us[i] (List.getElem_mem _);rw [jqq,jo hi,jo hi2,jcC];cases hp:dq ts[i] us[i]<;>rw [hp] at e1
  ·simp only [jd,hlt,ja hi,ja hi2,jl,e1,Bool.false_and]
  ·simp only [jd,hlt,ja hi,ja hi2,jl,e1,h5,ih',Bool.true_and]
theorem KX:∀s:T,twf s-> ∀t:T,twf t->G 151 [tm s,tm t]=some (vb (dq s t),[]):=by
 refine T.ind λs ih hw t hw'=> ?_;obtain ⟨w1,w2,w3⟩:=(kV s).1 hw;have w3:=(zw _).1 w3;obtain ⟨v1,v2,v3⟩:=(kV t).1 hw';have v3:=(zw _).1 v3;rw [jzH,jxx];by_cases hn:s.name=t.name
 ·by_cases hlen:s.args.length=t.args.length
  ·have key:=jiP t.name t.name s.args t.args w2 hlen (λa ha b hb=>ih a ha (w3 a ha) b (v3 b hb)) 0 (Nat.zero_le _);simp only [Int.natCast_zero,List.drop_zero] at key;simp only [jd,hn,hlen,key,Bool.true_and]
  ·have hlen':¬((s.args.length:Nat):Int)=((t.args.length:Nat):Int):=by omega
   simp only [jd,hn,hlen',jgY hlen,Bool.and_false]
 ·simp only [jd,hn,Bool.false_and]
def rk (o:Ord') (t:T):Int:=Qi 0 (Qs t.name o.syms)
def jxw (a b:Int):Int:=if a < b then -1 else if b < a then 1 else 0
def jm3 (o:Ord') (s t:T):Int:=if rk o s=rk o t then jxw (s.args.length:Nat) (t.args.length:Nat) else jxw (rk o s) (rk o t)
noncomputable def fd:List T->List T->Option (T × T)
 | a::l,b::r=>if dq a b=true then fd l r else some (a,b)
 | _,_=>none
def zT:A:= .agg [sv [],.sl 2 []]
noncomputable def fdR (s t:T):A:=match fd s.args t.args with|some (a,b)=> .tup [tm a,tm b,vb true]|none=> .tup [zT,zT,vb false]
noncomputable def jnU (o:Ord'):Nat->T->T->Bool
 | 0,_,_=>false
 | n+1,s,t=>if jk s.name then false else if (s.args.any λa=>dq a t || jnU o n a t) then true else if jk t.name then false
   else if (t.args.any λb=> !jnU o n s b) then false else if 0 < jm3 o s t then true else if jm3 o s t < 0 then false
   else match fd s.args t.args with|some (a,b)=>jnU o n a b|none=>false
def jui (e g l:Bool):Int:=if e then 1 else if g then 2 else if l then 3 else 0
noncomputable def jvZ (o:Ord') (s t:T):Int:=jui (dq s t) (jnU o (nodes s+nodes t) s t) (jnU o (nodes s+nodes t) t s)
noncomputable def jv3 (o:Ord') (s t:T):A:=if jlL o && (good o s && good o t) then .tup [vi (jvZ o s t),vb true] else .tup [vi 0,vb false]
mutual
def jS:T->List (List UInt8)
 | .mk n us=>if jk n then [n] else zf us
def zf:List T->List (List UInt8)
 | []=>[]
 | t::ts=>jS t++zf ts
end
theorem qu (t:T):jS t=if jk t.name then [t.name] else zf t.args:=by cases t;rfl
theorem jaC {n:Nat} (h:n<=4000000):jB n 16=true:=by
 unfold jB;simp;omega
def jo4 (l:List (List UInt8)) (vs:List (List UInt8)) (k:Nat) (r:List (List UInt8)):Prop:=(∀n,n∈r↔n∈l\/n∈vs)/\r.length<=l.length+k
mutual
def cnt (n:List UInt8):T->Nat
 | .mk m us=>(if m=n then 1 else 0)+ZH n us
def ZH (n:List UInt8):List T->Nat
 | []=>0
 | t::ts=>cnt n t+ZH n ts
end
theorem jkG (n:List UInt8) (t:T):cnt n t=(if t.name=n then 1 else 0)+ZH n t.args:=by cases t;rfl
theorem jv1 (n:List UInt8):∀t:T,cnt n t<=nodes t:=by
 refine T.ind λt ih=> ?_;have:∀ts:List T,(∀u∈ts,cnt n u<=nodes u)->ZH n ts<=jD ts:=by
  intro ts;induction ts with
  | nil=>intro _;simp [ZH]
  | cons u us ih=>
   intro h;have h1:=h u (by simp);have h2:=ih λv hv=>h v (by simp [hv]);simp only [ZH,jD];omega
 have h:=this t.args ih;rw [jkG,jP];split<;>omega
theorem jsv (n:List UInt8) (ts:List T):ZH n ts<=jD ts:=by
 induction ts with
 | nil=>simp [ZH]
 | cons u us ih=>have:=jv1 n u;simp only [ZH,jD];omega
theorem jdn (n:List UInt8) (ts:List T) (hl:ts.length<=9223372036854775807) (hn:jD ts<=1048577) (ih:∀t∈ts,G 210 [tm t,sv n]=some (vi (cnt n t:Nat),[])) :
  ∀i,i<=ts.length-> ∀a:Nat,a+ZH n (ts.drop i)<=1048579->jc3 (sv n) (vi a) (jY ts) (vi (ts.length:Nat)) (vi i)=some (vi ((a+ZH n (ts.drop i):Nat):Int),[]):=by
 refine upto ?_ ?_
 ·intro a ha;rw [jqB,List.drop_length];simp only [jd,ZH,Nat.add_zero]
 ·intro i hi ih' a ha;have hlt:(i:Int) < ((ts.length:Nat):Int):=by omega
  have h5:=jr hi hl;have e1:=ih ts[i] (List.getElem_mem _);rw [jo hi] at ha ⊢;simp only [ZH] at ha ⊢;have hk:ck ((a:Int)+((cnt n ts[i]:Nat):Int))=some (vi ((a+cnt n ts[i]:Nat):Int)):=by rw [jG (by omega) (by omega)];rfl
  have ih':=ih' (a+cnt n ts[i]) (by omega);rw [jqB];simp only [jd,hlt,ja hi,jl,e1,hk,h5,ih',Nat.add_assoc]
theorem jgX (n:List UInt8):∀t:T,twf t->nodes t<=1048577->G 210 [tm t,sv n]=some (vi (cnt n t:Nat),[]):=by
 refine T.ind λt ih hw hn=> ?_;obtain ⟨w1,w2,w3⟩:=(kV t).1 hw;have w3:=(zw _).1 w3;rw [jP] at hn;have hc:=jsv n t.args;have key:=λa h=>jdn n t.args w2 (by omega) (λu hu=>ih u hu (w3 u hu) (by have:=Zp hu;omega)) 0 (Nat.zero_le _) a h;simp only [Int.natCast_zero,List.drop_zero] at key;rw [jAh,jkG];by_cases h:t.name=n
 ·have key:=key 1 (by omega);simp only [Int.natCast_one] at key;simp only [jd,h,key]
 ·have key:=key 0 (by omega);simp only [Int.natCast_zero] at key;simp only [jd,h,key]
theorem jqI (l:List (List UInt8)) (s:List UInt8) (hl:l.length<=2100000):∃r,G 233 [strs l,sv s]=some (strs r,[])/\jo4 l [s] 1 r:=by
 have key:=upto (P:=λi=>∃r,jgL (strs l) (sv s) (vi i)=some (strs r,[])/\jo4 l [s] 1 r) (n:=l.length) ?_ ?_ 0 (Nat.zero_le _)
 ·simp only [Int.natCast_zero] at key;rw [jAn];exact key
 ·have hx:¬((l.length:Nat):Int) < ((l.length:Nat):Int):=Int.lt_irrefl _;have s1:ym 1 (strs l) none (some (vi (l.length:Nat)))=some (strs l):=by rw [Yj (by simp),List.take_of_length_le (by simp)]
  have s2:ym 1 (strs l) (some (vi (l.length:Nat))) none=some (.sl 1 []):=by rw [Yi (by simp),List.drop_of_length_le (by simp)]
  have f1:jB l.length 16=true:=jaC (by omega);have f2:jB (l.length+1) 16=true:=jaC (by omega);have happ:jL (jL (l.map cs) [[sv s]]) []=(l++[s]).map cs:=by simp [jL]
  have hlen:(jL (l.map cs) [[sv s]]).length=l.length+1:=by simp [jL]
  refine ⟨l++[s],?_,by intro n;simp,by simp⟩
  rw [jqH];simp only [jd,hx,s1,s2,f1,f2,hlen,happ,Nat.add_zero]
 ·intro i hi ih;have hlt:(i:Int) < ((l.length:Nat):Int):=by omega
  have h5:=jr hi (by omega);rw [jqH];cases h1:zF l[i] s
  ·by_cases h2:l[i]=s
   ·refine ⟨l,?_,λn=>⟨λh=>Or.inl h,λh=>by
     rcases h with h|h
     ·exact h
     ·simp at h;rw [h,<-h2];exact List.getElem_mem _⟩,by omega⟩
    rw [h2] at h1;simp only [jd,hlt,ja hi,h2,h1]
   ·have s1:ym 1 (strs l) none (some (vi i))=some (strs (l.take i)):=by rw [Yj (by simp;omega),<-List.map_take]
    have s2:ym 1 (strs l) (some (vi i)) none=some (strs (l.drop i)):=by rw [Yi (by simp;omega),<-List.map_drop]
    have ht:(l.take i).length=i:=by rw [List.length_take];omega
    have f1:jB i 16=true:=jaC (by omega);have f2:jB (i+1) 16=true:=jaC (by omega);have f3:jB (i+1+(l.drop i).length) 16=true:=jaC (by rw [List.length_drop];omega);have happ:jL (jL ((l.take i).map cs) [[sv s]]) ((l.drop i).map cs)=(l.take i++[s]++l.drop i).map cs:=by simp [jL]
    have hlen:(jL ((l.take i).map cs) [[sv s]]).length=i+1:=by simp [jL];omega
    refine ⟨l.take i++[s]++l.drop i,?_,λn=> ?_,by simp;omega⟩
    ·simp only [jd,hlt,ja hi,h1,h2,s1,s2,ht,f1,f2,f3,hlen,happ]
    ·have hm:n∈l↔n∈l.take i\/n∈l.drop i:=by rw [<-List.mem_append,List.take_append_drop]
     simp only [List.mem_append,List.mem_singleton,hm];exact ⟨λh=>by rcases h with (h|h)|h<;>simp [h],λh=>by rcases h with (h|h)|h<;>simp [h]⟩
  ·obtain ⟨r,e,c⟩:=ih;refine ⟨r,?_,c⟩;simp only [jd,hlt,ja hi,h1,h5,e]
theorem jnN:∀t:T,twf t-> ∀l:List (List UInt8),l.length+nodes t<=2100000-> ∃r,G 213 [strs l,tm t]=some (strs r,[])/\jo4 l (jS t) (nodes t) r:=by
 refine T.ind λt ih hw l hb=> ?_;obtain ⟨w1,w2,w3⟩:=(kV t).1 hw;have w3:=(zw _).1 w3;have e1:=zt t.name w1;rw [jAk,qu];rw [jP] at hb ⊢;cases hv:jk t.name<;>rw [hv] at e1
 ·have key:=upto (P:=λi=>∀l:List (List UInt8),l.length+jD (t.args.drop i)<=2100000-> ∃r,jgI (strs l) (vi i) (sv t.name) (jY t.args)=some (strs r,[])/\jo4 l (zf (t.args.drop i)) (jD (t.args.drop i)) r) (n:=t.args.length) ?_ ?_ 0 (Nat.zero_le _)
  ·simp only [Int.natCast_zero,List.drop_zero] at key;obtain ⟨r,e,c1,c2⟩:=key l (by omega);refine ⟨r,?_,by simpa using c1,by omega⟩;simp only [jd,e1,e]
  ·intro l hb;rw [jqD,List.drop_length];refine ⟨l,?_,by simp [zf],by omega⟩;simp only [jd]
  ·intro i hi ih' l hb;have hlt:(i:Int) < ((t.args.length:Nat):Int):=by omega
   have h5:=jr hi w2;rw [jo hi] at hb ⊢;simp only [jD,zf] at hb ⊢;obtain ⟨r1,a1,c1,c2⟩:=ih t.args[i] (List.getElem_mem _) (w3 _ (List.getElem_mem _)) l (by omega);obtain ⟨r2,a2,d1,d2⟩:=ih' r1 (by omega);rw [jqD];refine ⟨r2,?_,?_,by omega⟩
   ·simp only [jd,hlt,ja hi,jl,a1,h5,a2]
   ·intro n;rw [d1,c1,List.mem_append];exact or_assoc
 ·obtain ⟨r,e,c1,c2⟩:=jqI l t.name (by omega);refine ⟨r,?_,by simpa using c1,by omega⟩;simp only [jd,e1,e]
theorem jnP (t:T) (hw:twf t) (hn:nodes t<=1048577):∃r,G 186 [tm t]=some (strs r,[])/\(∀n,n∈r↔n∈jS t)/\r.length<=9223372036854775807:=by
 obtain ⟨r,e,c1,c2⟩:=jnN t hw [] (by simp;omega)
 have e:G 213 [.sl 1 [],tm t]=some (strs r,[]):=e;refine ⟨r,?_,λn=>by rw [c1];simp,by simp at c2;omega⟩;rw [jz7];simp only [jd,e]
def bal (s t:T):Bool:=(jS t).all λn=>decide (cnt n t<=cnt n s)
noncomputable def jtj (o:Ord'):Nat->T->T->Bool
 | 0,_,_=>false
 | n+1,s,t=>if bal s t then (if wt o s=wt o t then (if jk s.name || jk t.name then false else if jm3 o s t=0 then (match fd s.args t.args with|some (a,b)=>jtj o n a b|none=>false) else decide (0 < jm3 o s t)) else decide (wt o t < wt o s)) else false
noncomputable def jvY (o:Ord') (s t:T):Int:=jui (dq s t) (jtj o (nodes s+nodes t) s t) (jtj o (nodes s+nodes t) t s)
noncomputable def jv2 (o:Ord') (s t:T):A:=if jlL o && (good o s && good o t) then .tup [vi (jvY o s t),vb true] else .tup [vi 0,vb false]
def jgR (t:T):T:=t.args.getD 0 (.mk [] [])
def jky (t:T):T:=t.args.getD 1 (.mk [] [])
def jeW (t:T):Bool:=decide (t.args.length=2) && (jE t && (z6 (jgR t) && z6 (jky t)))
theorem YI {t:T} (hl:t.args.length=2):jq 2 (jY t.args) (vi 0)=some (.elt (jz (jgR t)) 0)/\jq 2 (jY t.args) (vi 1)=some (.elt (jz (jky t)) 0)/\jgR t∈t.args/\jky t∈t.args:=by
 have e0:jgR t=t.args[0]:=by unfold jgR;simp [List.getD_eq_getElem?_getD,hl]
 have e1:jky t=t.args[1]:=by unfold jky;simp [List.getD_eq_getElem?_getD,hl]
 rw [e0,e1];exact ⟨ja (i:=0) (by omega),ja (i:=1) (by omega),List.getElem_mem _,List.getElem_mem _⟩
theorem jdN (t:T) (hw:twf t) (hs:tsz t<=1048576) (he:t.name = [61]):G 76 [tm t]=some (vb (jeW t),[]):=by
 obtain ⟨w1,w2,w3⟩:=(kV t).1 hw;have w3:=(zw _).1 w3;have het:(t.name = [61])=True:=eq_true he;unfold jeW;rw [g76];by_cases hl:t.args.length=2;rotate_left
 ·have hl':¬((t.args.length:Nat):Int)=2:=by omega
  simp only [jd,het,hl',hl,Bool.false_and]
 have hl':((t.args.length:Nat):Int)=2:=by omega
 rw [decide_eq_true hl,Bool.true_and];obtain ⟨i0,i1,ma,mb⟩:=YI hl;have p1:=jft t hw hs;have p2:=QB _ (w3 _ ma);have p3:=QB _ (w3 _ mb);cases h1:jE t<;>rw [h1] at p1
 ·simp only [jd,het,hl',p1,Bool.false_and,Bool.and_false]
 ·cases h2:z6 (jgR t)<;>rw [h2] at p2
  ·simp only [jd,het,hl',p1,i0,jl,p2,Bool.false_and,Bool.and_false]
  ·simp only [jd,het,hl',p1,i0,i1,jl,p2,p3,Bool.true_and]
theorem Qk (t:T):G 156 [tm t]=some (vb (decide (t.name = [61])),[]):=by
 rw [jzL];simp only [jd]
theorem jco (t:T) (hw:twf t) (hs:tsz t<=1048576) (he:t.name = [61]):G 114 [tm t]=some (vb (jeW t),[]):=by
 obtain ⟨w1,w2,w3⟩:=(kV t).1 hw;have w3:=(zw _).1 w3;have q0:=Qk t;rw [decide_eq_true he] at q0;unfold jeW;rw [jxE];by_cases hl:t.args.length=2;rotate_left
 ·have hl':¬((t.args.length:Nat):Int)=2:=by omega
  simp only [jd,q0,hl',hl,Bool.false_and]
 have hl':((t.args.length:Nat):Int)=2:=by omega
 rw [decide_eq_true hl,Bool.true_and];obtain ⟨i0,i1,ma,mb⟩:=YI hl;have p1:=Qy t hw hs;have p2:=ZZ _ (w3 _ ma);have p3:=ZZ _ (w3 _ mb);cases h1:jE t<;>rw [h1] at p1
 ·simp only [jd,q0,hl',p1,Bool.false_and,Bool.and_false]
 ·cases h2:z6 (jgR t)<;>rw [h2] at p2
  ·simp only [jd,q0,hl',p1,i0,jl,p2,Bool.false_and,Bool.and_false]
  ·simp only [jd,q0,hl',p1,i0,i1,jl,p2,p3,Bool.true_and]
def jBo (o:Ord') (t:T):Bool:=decide (t.name = [61]) && (jeW t && (jsw o.syms (jgR t) && jsw o.syms (jky t)))
theorem qt (n:List UInt8) (us:List T):tsz (.mk n us)=n.length+us.length+yf us:=rfl
theorem jwJ:∀t:T,tsz t<=1048576->twf t:=by
 refine T.ind λt ih h=> ?_;have h':=h;rw [kO] at h';exact (kV t).2 ⟨by omega,by omega,(zw _).2 λu hu=>ih u hu (by have:=qY hu;omega)⟩
theorem jlf {n:Nat} (h:n<=4194304):jB n 40=true:=by
 unfold jB;exact decide_eq_true ⟨by omega,by omega⟩
theorem QI (t:T):tsz t<=1048576->G 102 [tm t]=some (tm t,[]):=by
 refine T.ind (p:=λt=>tsz t<=1048576->G 102 [tm t]=some (tm t,[])) ?_ t;intro t ih h;rw [kO] at h;have key:=(upto (P:=λi=>jgl (vi i) (sv t.name) (jY t.args) (sv []) (sv t.name) [] ((t.args.take i).map jz)=some (tm t,[])) (n:=t.args.length) ?_ ?_ 0 (Nat.zero_le _))
 ·rw [jzd];simp only [Int.natCast_zero,List.take_zero,List.map_nil] at key;simp only [jd,key]
 ·rw [jp7,List.take_length];simp only [jd]
 ·intro i hi ih';have hlt:(i:Int) < ((t.args.length:Nat):Int):=by omega
  have h5:=jr hi (by show t.args.length<=9223372036854775807;omega)
  have e1:=ih t.args[i] (List.getElem_mem _) (by have:=qY (List.getElem_mem hi);omega)
  have hf:jB (i+1) 40=true:=jlf (by omega);have hl:((t.args.take i).map jz).length=i:=by rw [List.length_map,List.length_take];omega
  have ha:jL ((t.args.take i).map jz) [[sv t.args[i].name,jY t.args[i].args]]=(t.args.take (i+1)).map jz:=by
   rw [show [sv t.args[i].name,jY t.args[i].args]=jz t.args[i] from (kK _).symm,List.take_add_one,List.getElem?_eq_getElem hi,List.map_append];rfl
  rw [jp7];simp only [jd,hlt,ja hi,jl,e1,hl,hf,ha,h5,ih',List.length_take,Nat.min_eq_left (Nat.le_of_lt hi)]
def Lp (o:Ord') (s t:T):Prop:=jnU o (nodes s+nodes t) s t=true
def Kp (o:Ord') (s t:T):Prop:=jtj o (nodes s+nodes t) s t=true
theorem jrW {n:List UInt8} (hn:jk n=true):∀t:T,z6 t=true->(n∈jS t↔1<=cnt n t):=by
 refine T.ind λt ih hk=> ?_;have hL:∀ts:List T,(∀u∈ts,(n∈jS u↔1<=cnt n u))->(n∈zf ts↔1<=ZH n ts):=by
  intro ts;induction ts with
  | nil=>intro _;simp [zf,ZH]
  | cons u us ih2=>
   intro h;have h1:=h u (by simp);have h2:=ih2 λv hv=>h v (by simp [hv]);simp only [zf,ZH,List.mem_append,h1,h2];omega
 have hargs:=hL t.args λu hu=>ih u hu (zE hk u hu);rw [qu,jkG];rw [yd] at hk;cases hv:jk t.name
 ·have hne:t.name≠n:=λe=>by rw [e,hn] at hv;cases hv
  rw [if_neg Bool.false_ne_true,if_neg hne,hargs];omega
 ·rw [hv,if_pos rfl] at hk;have ha:=List.isEmpty_iff.1 hk;rw [if_pos rfl,List.mem_singleton,ha];by_cases e:t.name=n
  ·rw [if_pos e];simp [ZH,e]
  ·rw [if_neg e];simp [ZH];exact λh=>e h.symm
theorem jkb {n:List UInt8} :∀t:T,n∈jS t->jk n=true:=by
 refine T.ind λt ih h=> ?_;rw [qu] at h;cases hv:jk t.name
 ·rw [hv,if_neg Bool.false_ne_true] at h;have:∀ts:List T,(∀u∈ts,n∈jS u->jk n=true)->n∈zf ts->jk n=true:=by
   intro ts;induction ts with
   | nil=>intro _ h;simp [zf] at h
   | cons u us ih2=>
    intro h h2;simp only [zf,List.mem_append] at h2;rcases h2 with h2|h2
    ·exact h u (by simp) h2
    ·exact ih2 (λv hv=>h v (by simp [hv])) h2
  exact this t.args ih h
 ·rw [hv,if_pos rfl,List.mem_singleton] at h;rw [h];exact hv
def rbI (c:Int):Int:=if c=2 then 3 else if c=3 then 2 else c
open Classical in
open Classical in
def look:List (List UInt8 × T)->List UInt8->Option T
 | [],_=>none
 | p::u,n=>if p.1=n then some p.2 else look u n
def Ji (u:List (List UInt8 × T)) (n:List UInt8):T:=(look u n).getD (.mk n [])
mutual
def sub (u:List (List UInt8 × T)):T->T
 | .mk n us=>if jk n then Ji u n else .mk n (joC u us)
def joC (u:List (List UInt8 × T)):List T->List T
 | []=>[]
 | t::ts=>sub u t::joC u ts
end
theorem jjQ (u:List (List UInt8 × T)):∀ts:List T,joC u ts=ts.map (sub u)
 | []=>rfl
 | t::ts=>by rw [joC,jjQ u ts,List.map_cons]
theorem qX {u:List (List UInt8 × T)} {t:T} (h:jk t.name=true):sub u t=Ji u t.name:=by
 obtain ⟨n,us⟩:=t;have h:jk n=true:=h;show (if jk n then Ji u n else T.mk n (joC u us))=_;rw [if_pos h];rfl
theorem yB {u:List (List UInt8 × T)} {t:T} (h:jk t.name=false):sub u t = .mk t.name (t.args.map (sub u)):=by
 obtain ⟨n,us⟩:=t;have h:jk n=false:=h;show (if jk n then Ji u n else T.mk n (joC u us))=_;rw [h,if_neg Bool.false_ne_true,jjQ];rfl
theorem Yw {u:List (List UInt8 × T)} {t:T} (h:jk t.name=false):(sub u t).name=t.name:=by rw [yB h];rfl
theorem K6 {u:List (List UInt8 × T)} {t:T} (h:jk t.name=false):(sub u t).args=t.args.map (sub u):=by rw [yB h];rfl
theorem Zb {t:T} (h:z6 t=true) (hv:jk t.name=true):t.args = []:=by
 rw [yd,hv,if_pos rfl] at h;exact List.isEmpty_iff.1 h
def jAD (f:List UInt8->Int):List (List UInt8)->Int
 | []=>0
 | x::l=>f x+jAD f l
abbrev bc (p:List UInt8 × T):List A:=[sv p.1,sv p.2.name,.sl 2 (p.2.args.map jz)]
abbrev qD (u:List (List UInt8 × T)):A:= .sl 3 (u.map bc)
abbrev sb (u:List (List UInt8 × T)):A:= .agg [qD u]
theorem Zq (p:List UInt8 × T):jZ 2 (.elt (bc p) 1)=some (tm p.2):=rfl
theorem zq (p:List UInt8 × T):kJ (.elt (bc p) 0)=some (sv p.1):=rfl
theorem zV (p:List UInt8 × T) (n:Nat):yJ (.elt (bc p) 0) n=some (.elt (bc p) n):=by rw [yQ,Nat.zero_add]
def Sz (z:Nat) (u:List (List UInt8 × T)):Prop:=u.length<=z/\ ∀p∈u,p.1.length<=z/\tsz p.2<=z
theorem jfu (u:List (List UInt8 × T)) (hl:u.length<=1048576) (n:List UInt8):(look u n=none/\G 101 [sb u,sv n]=some (vi (-1),[]))\/ ∃k,∃h:k < u.length,look u n=some u[k].2/\G 101 [sb u,sv n]=some (vi (k:Nat),[]):=by
 have key:=upto (P:=λi=>(look (u.drop i) n=none/\jcT (sv n) (vi i) (qD u)=some (vi (-1),[]))\/ ∃k,∃h:k < u.length,look (u.drop i) n=some u[k].2/\jcT (sv n) (vi i) (qD u)=some (vi (k:Nat),[])) (n:=u.length) ?_ ?_ 0 (Nat.zero_le _)
 ·rw [jzc];exact key
 ·left;rw [List.drop_length,jp6];exact ⟨rfl,by simp only [jd]⟩
 ·intro i hi ih;have hlt:(i:Int) < ((u.length:Nat):Int):=by omega
  have h5:=jr hi (by show u.length<=9223372036854775807;omega)
  rw [jp6,jo hi,look];by_cases he:u[i].1=n
  ·right;rw [if_pos he];exact ⟨i,hi,rfl,by simp only [jd,hlt,ja hi,zV,zq,he]⟩
  ·rw [if_neg he];rcases ih with ⟨h1,h2⟩|⟨k,hk,h1,h2⟩
   ·left;exact ⟨h1,by simp only [jd,hlt,ja hi,zV,zq,he,h5,h2]⟩
   ·right;exact ⟨k,hk,h1,by simp only [jd,hlt,ja hi,zV,zq,he,h5,h2]⟩
theorem Zn (u:List (List UInt8 × T)) (hu:Sz 1048576 u) (t:T):tsz t<=1048576->G 50 [sb u,tm t]=some (tm (sub u t),[]):=by
 refine T.ind (p:=λt=>tsz t<=1048576->G 50 [sb u,tm t]=some (tm (sub u t),[])) ?_ t;intro t ih hs;have h:=hs;rw [kO] at h;have e1:=zt t.name (by show t.name.length<=9223372036854775807;omega);rw [g50];cases hv:jk t.name<;>rw [hv] at e1
 ·have key:=(upto (P:=λi=>jlZ (vi i) (qD u) (sv t.name) (jY t.args) (sv []) (sv t.name) [] (((t.args.map (sub u)).take i).map jz)=some (tm (sub u t),[])) (n:=t.args.length) ?_ ?_ 0 (Nat.zero_le _))
  ·simp only [Int.natCast_zero,List.take_zero,List.map_nil] at key;simp only [jd,e1,key]
  ·rw [juI,List.take_of_length_le (by rw [List.length_map];omega),yB hv]
   simp only [jd];rfl
  ·intro i hi ih';have hlt:(i:Int) < ((t.args.length:Nat):Int):=by omega
   have h5:=jr hi (by show t.args.length<=9223372036854775807;omega)
   have e2:=ih t.args[i] (List.getElem_mem _) (by have:=qY (List.getElem_mem hi);omega)
   have hf:jB (i+1) 40=true:=jlf (by omega);have hi2:i < (t.args.map (sub u)).length:=by rw [List.length_map];exact hi
   have hl:(((t.args.map (sub u)).take i).map jz).length=i:=by rw [List.length_map,List.length_take,List.length_map];omega
   have ha:jL (((t.args.map (sub u)).take i).map jz) [[sv (sub u t.args[i]).name,jY (sub u t.args[i]).args]]=((t.args.map (sub u)).take (i+1)).map jz:=by
    rw [show [sv (sub u t.args[i]).name,jY (sub u t.args[i]).args]=jz (sub u t.args[i]) from (kK _).symm,List.take_add_one,List.getElem?_eq_getElem hi2,List.map_append,List.getElem_map];rfl
   generalize ((t.args.map (sub u)).take i).map jz=R at *;rw [juI];simp only [jd,hlt,ja hi,jl,e2,hl,hf,ha,h5,ih']
 ·rw [qX hv,Ji];rcases jfu u hu.1 t.name with ⟨h1,h2⟩|⟨k,hk,h1,h2⟩
  ·rw [h1];simp only [jd,e1,h2];rfl
  ·rw [h1];have hm:=hu.2 _ (List.getElem_mem hk);have e3:=QI u[k].2 hm.2;have hk0:(0:Int)<=((k:Nat):Int):=by omega
   simp only [jd,e1,h2,hk0,ja hk,zV,Zq,e3,Option.getD_some]
theorem jiV:∀ {u:List (List UInt8 × T)} {n:List UInt8} {r:T},look u n=some r-> ∃p∈u,p.2=r
 | p::u,n,r,h=>by
  rw [look] at h;by_cases e:p.1=n
  ·rw [if_pos e] at h;cases h;exact ⟨p,by simp,rfl⟩
  ·rw [if_neg e] at h;obtain ⟨q,hq,h⟩:=jiV h;exact ⟨q,by simp [hq],h⟩
theorem jrJ {u:List (List UInt8 × T)} {Z:Nat} (hZ:1<=Z) (hu:∀p∈u,tsz p.2<=Z):∀t:T,tsz (sub u t)<=tsz t * Z:=by
 refine T.ind λt ih=> ?_;have hmul:∀n:Nat,n<=n * Z:=λn=>Nat.le_mul_of_pos_right n hZ;cases hv:jk t.name
 ·have hL:∀ts:List T,(∀v∈ts,tsz (sub u v)<=tsz v * Z)->yf (ts.map (sub u))<=yf ts * Z:=by
   intro ts;induction ts with
   | nil=>intro _;simp [yf]
   | cons v vs ih2=>
    intro h;have h1:=h v (by simp);have h2:=ih2 λw hw=>h w (by simp [hw]);simp only [List.map_cons,yf,Nat.add_mul];omega
  have h1:=hL t.args ih;have h2:=hmul t.name.length;have h3:=hmul t.args.length;rw [kO t,kO (sub u t),Yw hv,K6 hv,List.length_map,Nat.add_mul,Nat.add_mul];omega
 ·rw [qX hv,Ji];have h1:1<=t.name.length:=by
   cases hn:t.name with
   | nil=>rw [hn] at hv;cases hv
   | cons c r=>simp
  have h2:=kO t;cases hlk:look u t.name with
  | none=>
   have:=hmul t.name.length;show tsz (.mk t.name [])<=_;rw [qt,h2,Nat.add_mul,Nat.add_mul];simp only [List.length_nil,yf];omega
  | some r=>
   obtain ⟨p,hp,rfl⟩:=jiV hlk;have h3:=hu p hp;show tsz p.2<=_;have h4:1 * Z<=tsz t * Z:=Nat.mul_le_mul_right Z (by omega);omega
abbrev ju:=List (List UInt8 × T)
mutual
noncomputable def mt (m:ju) (p:T) (t:T):Option ju:=
 match p with
 | .mk n us=>if jk n then (match look m n with|some r=>if dq r t then some m else none|none=>some (m++[(n,t)]))
   else if n=t.name/\us.length=t.args.length then mtL m us t.args else none
termination_by structural p
noncomputable def mtL (m:ju) (ps:List T) (ts:List T):Option ju:=
 match ps with
 | []=>some m
 | u::us=>(match ts with | []=>some m|t::ts=>(mt m u t).bind λm'=>mtL m' us ts)
termination_by structural ps
end
theorem qI {u:ju} {n:List UInt8} :look u n=none↔ ∀p∈u,p.1≠n:=by
 induction u with
 | nil=>simp [look]
 | cons p u ih=>
  rw [look];by_cases h:p.1=n
  ·rw [if_pos h];simp [h]
  ·rw [if_neg h,ih];simp [h]
theorem Kq:∀ {u:ju} {n:List UInt8} {r:T},look u n=some r->(n,r)∈u
 | p::u,n,r,h=>by
  rw [look] at h;by_cases e:p.1=n
  ·rw [if_pos e] at h;cases h;rw [<-e];simp
  ·rw [if_neg e] at h;exact List.mem_cons_of_mem _ (Kq h)
def MOk (p:T->Prop) (m:ju):Prop:=(m.map Prod.fst).Nodup/\(∀q∈m,jk q.1=true/\p q.2)
theorem MOk.nil (p:T->Prop):MOk p []:=⟨by simp,λq h=>by cases h⟩
def KI (s:ju) (n:List UInt8) (t:T):ju:=s.takeWhile (λp=>zF p.1 n)++(n,t)::s.dropWhile (λp=>zF p.1 n)
def Kf (s:ju) (n:List UInt8) (t:T):ju:=if t.name=n then s else KI s n t
def QJ (m:ju):ju:=m.foldl (λs p=>Kf s p.1 p.2) []
theorem YW (a:List UInt8):zF a a=false:=by
 unfold zF;cases h:Op.bytesLess a a with
 | false=>rfl
 | true=>
  exfalso;induction a with
  | nil=>simp [Op.bytesLess] at h
  | cons c r ih=>simp [Op.bytesLess] at h;exact ih h
theorem jq0 (n:List UInt8) (h:jk n=true):z6 (.mk n [])=true:=by rw [yd];show (if jk n then _ else _)=true;rw [if_pos h];rfl
theorem Yx {u:ju} (hu:∀q∈u,z6 q.2=true):∀t:T,z6 t=true->z6 (sub u t)=true:=by
 refine T.ind λt ih hk=> ?_;cases hv:jk t.name with
 | true=>
  rw [qX hv,Ji];cases h:look u t.name with
  | none=>exact jq0 _ hv
  | some r=>exact hu _ (Kq h)
 | false=>
  have hk':=hk;rw [yd,hv,if_neg Bool.false_ne_true,Bool.and_eq_true,Bool.and_eq_true,qo] at hk;rw [yd,Yw hv,hv,if_neg Bool.false_ne_true,K6 hv,Bool.and_eq_true,Bool.and_eq_true,qo];refine ⟨hk.1,by simpa using hk.2.1,?_⟩;rw [List.all_map,List.all_eq_true];intro a ha;exact ih a ha (List.all_eq_true.1 hk.2.2 a ha)
def jcs (r:T):T:=r.args.getD 0 (.mk [] [])
def jcu (r:T):T:=r.args.getD 1 (.mk [] [])
noncomputable def jru:List T->T->Option T
 | [],_=>none
 | r::rs,t=>(match mt [] (jcs r) t with|some m=>some (sub m (jcu r))|none=>jru rs t)
mutual
noncomputable def jx3 (rs:List T) (root:Bool):T->Option T
 | .mk n us=>(match jva rs us with|some us'=>some (.mk n us')|none=>if root then jru rs (.mk n us) else none)
noncomputable def jva (rs:List T):List T->Option (List T)
 | []=>none
 | t::ts=>(match jx3 rs true t with|some t'=>some (t'::ts)|none=>(jva rs ts).map (t::·))
end
def atT:List Nat->T->T
 | [],t=>t
 | i::p,t=>atT p (t.args.getD i (.mk [] []))
def jvm (s:T):List Nat->T->T
 | [],_=>s
 | i::p,t=> .mk t.name (t.args.set i (jvm s p (t.args.getD i (.mk [] []))))
mutual
def jjn:T->List (List Nat)
 | .mk _ us=>jel 0 us++[[]]
def jel (i:Nat):List T->List (List Nat)
 | []=>[]
 | t::ts=>(jjn t).map (i::·)++jel (i+1) ts
end
noncomputable def jAC (rs:List T) (root:Bool) (t:T) (p:List Nat):Option T:=if p = []/\root=false then none else (jru rs (atT p t)).map λs=>jvm s p t
def jsh (rs:List T):Prop:=∀r∈rs,z6 (jcs r)=true/\z6 (jcu r)=true
noncomputable def rwN (rs:List T) (root:Bool):Nat->Nat->T->Option (T × Nat)
 | 0,_,_=>none
 | k+1,n,t=>(match jx3 rs root t with
  | none=>some (t,n)
  | some u=>if k=0\/jE u=false then none else rwN rs root k (n+1) u)
theorem jgW (ts:List T) (hl:ts.length<=1048576) (ih:∀t∈ts,G 131 [tm t]=some (tm t,[])):jko (jY ts)=some (.top,[jY ts]):=by
 rw [jvR];by_cases h0:ts.length=0
 ·have:ts = []:=List.length_eq_zero_iff.1 h0;subst this;simp only [jd,Int.natCast_zero];rfl
 have hz:¬((ts.length:Nat):Int)=0:=by omega
 have hm:=jbo (b:=40) (n:=ts.length) (by omega) hl;have key:=(upto (P:=λi=>Q2 (jY ts) (vi (ts.length:Nat)) (vi i) (part jz [sv [],.sl 2 []] ts i)=some (.top,[jY ts])) (n:=ts.length) ?_ ?_ 0 (Nat.zero_le _))
 ·simp only [Int.natCast_zero,<-jfI] at key;simp only [jd,hz,hm,key]
 ·rw [jiO,jji];simp only [jd]
 ·intro i hi ih';have hlt:(i:Int) < ((ts.length:Nat):Int):=by omega
  have h1:=jb0 (f:=jz) (z:=[sv [],.sl 2 []]) (Nat.le_of_lt hi);have h2:Ke (part jz [sv [],.sl 2 []] ts i).length (vi i)=some i:=zi (by omega);have h4:=jjk (f:=jz) (z:=[sv [],.sl 2 []]) hi;rw [kK] at h4;have h5:=jr hi (Nat.le_trans hl (by decide));have e1:G 131 [A.agg [sv ts[i].name,jY ts[i].args]]=_:=ih ts[i] (List.getElem_mem _);rw [jiO];simp only [jd,hlt,ja hi,jl,e1,List.getElem?_cons_zero,h2,jjj hi,jah,h4,h5,ih']
theorem ZW (t:T):tsz t<=1048576->G 131 [tm t]=some (tm t,[]):=by
 refine T.ind (p:=λt=>tsz t<=1048576->G 131 [tm t]=some (tm t,[])) ?_ t;intro t ih h;rw [kO] at h;have e1:=jgW t.args (by omega) λu hu=>ih u hu (by have:=qY hu;omega);rw [jzt];simp only [jd,e1]
theorem jlg {n:Nat} (h:n<=4194304):jB n 56=true:=by
 unfold jB;exact decide_eq_true ⟨by omega,by omega⟩
def MR (o:Option Out) (r:Option ju):Prop:=match r with
 | some m'=>o=some (.top,[vb true,.sl 259 (m'.map bc)])
 | none=>∃R,o=some (.top,[vb false,.sl 259 R])
theorem jrh {m:ju} {i:Nat} (hi:i < m.length):yE (m.map bc) i 0=some (sv m[i].1):=by unfold yE;simp [hi]
def Tz (t:T):Prop:=tsz t<=1048576
theorem Tz.args {t:T} (h:Tz t):∀u∈t.args,Tz u:=λu hu=>by
 have:=qY hu;unfold Tz at h ⊢;rw [kO] at h;omega
theorem Tz.wf {t:T} (h:Tz t):twf t:=jwJ t h
abbrev kv (p:List UInt8 × T):List A:=[sv p.1,tm p.2]
theorem jv4 (a b:List UInt8):eqK none (sv a) (sv b)=some (decide (a=b)):=by show some (decide (bs _=bs _))=_;refine congrArg some (decide_eq_decide.2 ?_);simp
def MI (o:Option Out) (r:Option ju):Prop:=match r with
 | some m'=>o=some (.top,[vb true,.sl 128 (m'.map kv)])
 | none=>∃R,o=some (.top,[vb false,.sl 128 R])
theorem jbr (n:List UInt8) (t:T):∀(s:ju) (i:Nat),i<=s.length->(∀j,(h:j < i)-> ∀h':j < s.length,zF s[j].1 n=true)->((∃h:i < s.length,zF s[i].1 n=false)\/i=s.length)->KI s n t=s.take i++(n,t)::s.drop i
 | [],i,hi,_,_=>by
  have:i=0:=by simpa using hi
  subst this;rfl
 | p::s,0,_,_,h=>by
  have hp:zF p.1 n=false:=by
   rcases h with ⟨_,h⟩|h
   ·exact h
   ·cases h
  unfold KI;rw [List.takeWhile_cons_of_neg (p:=λp:List UInt8 × T=>zF p.1 n) (by simp [hp]),List.dropWhile_cons_of_neg (p:=λp:List UInt8 × T=>zF p.1 n) (by simp [hp])];rfl
 | p::s,i+1,hi,h1,h=>by
  have hp:zF p.1 n=true:=h1 0 (by omega) (by simp);have:=jbr n t s i (by simpa using hi) (λj hj hj'=>h1 (j+1) (by omega) (by simpa using hj')) (by
   rcases h with ⟨h,h2⟩|h
   ·exact Or.inl ⟨by simpa using h,h2⟩
   ·exact Or.inr (by simpa using h))
  unfold KI at this ⊢;rw [List.takeWhile_cons_of_pos (p:=λp:List UInt8 × T=>zF p.1 n) hp,List.dropWhile_cons_of_pos (p:=λp:List UInt8 × T=>zF p.1 n) hp,List.cons_append,this];rfl
theorem zX {α:Type} (f:α->List A) (l:List α):zx (l.map f)=l.length:=List.length_map ..
theorem jjs (u:ju) (hl:u.length<=1000000) (i:Nat) (hi:i<=u.length) :
  pB u.length u.length (some (vi (i:Nat)))=some i/\zC (u.map bc) 0 i=(u.take i).map bc/\jB (u.take i).length 56=true/\pB u.length u.length none=some u.length/\pB 0 u.length (some (vi (i:Nat)))=some i/\zC (u.map bc) i (u.length - i)=(u.drop i).map bc/\kZ (u.map bc) 0=u.length/\jB ((u.take i).length+1) 56=true/\jB ((u.take i).length+1+(u.drop i).length) 56=true:=by
 refine ⟨yg hi,by rw [zC,List.drop_zero,List.map_take],jlg (by rw [List.length_take];omega),zc (Nat.le_refl _),yg hi,?_,by rw [kZ,List.length_map];rfl,jlg (by rw [List.length_take];omega),jlg (by rw [List.length_take,List.length_drop];omega)⟩
 rw [zC,<-List.map_drop,List.take_of_length_le (by rw [List.length_map,List.length_drop];omega)]
theorem jjr (u v:ju) (n:List UInt8) (t:T):jL (jL (u.map bc) [[sv n,sv t.name,jY t.args]]) (v.map bc)=(u++(n,t)::v).map bc:=by
 rw [List.map_append];show (u.map bc++[_])++v.map bc=u.map bc++_::v.map bc;rw [List.append_assoc];rfl
theorem jjt (u:ju) (n:List UInt8) (t:T):(jL (u.map bc) [[sv n,sv t.name,jY t.args]]).length=u.length+1:=by
 simp [jL]
theorem jmY (u:ju) (hl:u.length<=1000000) (n:List UInt8) (t:T) (ht:Tz t):jgd (sv n) (tm t) (u.map bc)=some (.top,[qD (Kf u n t)]):=by
 have e1:=QI t ht;have key:=upto (P:=λi=>(∀j,(h:j < i)-> ∀h':j < u.length,zF u[j].1 n=true)->ZJ (sv n) (vi i) (sv t.name) (jY t.args) (u.map bc) []=some (.top,[qD (KI u n t)])) (n:=u.length) ?_ ?_ 0 (Nat.zero_le _) (λj h=>absurd h (Nat.not_lt_zero _))
 ·rw [jvC,Kf];by_cases h:t.name=n
  ·rw [if_pos h];simp only [jd,h]
  ·rw [if_neg h];have e:ZJ (sv n) (vi 0) (sv t.name) (jY t.args) (u.map bc) []=some (.top,[qD (KI u n t)]):=key;simp only [jd,h,e]
 ·intro hall;rw [jbr n t u u.length (Nat.le_refl _) hall (Or.inr rfl)];obtain ⟨k1,k2,k3,k4,k5,k6,k7,k8,k9⟩:=jjs u hl u.length (Nat.le_refl _);have m1:=jjr (u.take u.length) (u.drop u.length) n t;have m2:=jjt (u.take u.length) n t;rw [jdH];simp only [jd,zX,k1,k2,k3,k4,k5,k6,k7,ya,Nat.sub_zero,Nat.zero_add,e1];generalize hB:j7 _ _ _=B;have hB':B=some (.agg [sv n,sv t.name,jY t.args]):=by rw [<-hB];kernel_rfl
  rw [hB'];simp only [jd,k3,k8,k9,m1,m2]
 ·intro i hi ih hall;have hlt:(i:Int) < ((u.length:Nat):Int):=by omega
  have h5:=jr hi (by show u.length<=9223372036854775807;omega)
  have x1:Ke u.length (vi ((i:Nat):Int))=some i:=zi hi;have x2:=jrh hi;cases hs:zF u[i].1 n
  ·rw [jbr n t u i (by omega) hall (Or.inl ⟨hi,hs⟩)];obtain ⟨k1,k2,k3,k4,k5,k6,k7,k8,k9⟩:=jjs u hl i (by omega);have m1:=jjr (u.take i) (u.drop i) n t;have m2:=jjt (u.take i) n t;rw [jdH];simp only [jd,hlt,x1,x2,hs,zX,k1,k2,k3,k4,k5,k6,k7,ya,Nat.sub_zero,Nat.zero_add,e1];generalize hB:j7 _ _ _=B;have hB':B=some (.agg [sv n,sv t.name,jY t.args]):=by rw [<-hB];kernel_rfl
   rw [hB'];simp only [jd,k3,k8,k9,m1,m2]
  ·have ih:=ih λj hj hj'=>by
    by_cases h:j=i
    ·subst h;exact hs
    ·exact hall j (by omega) hj'
   rw [jdH];simp only [jd,hlt,x1,x2,hs,h5,ih]
theorem jjp (s:ju) (n:List UInt8) (t:T):(Kf s n t).length<=s.length+1:=by
 unfold Kf;split
 ·omega
 ·unfold KI;rw [List.length_append,List.length_cons];have:=List.takeWhile_append_dropWhile (p:=λp:List UInt8 × T=>zF p.1 n) (l:=s);have:=congrArg List.length this;rw [List.length_append] at this;omega
theorem jjq {s:ju} {n:List UInt8} {t:T} {q:List UInt8 × T} (h:q∈Kf s n t):q∈s\/q=(n,t):=by
 unfold Kf at h;split at h
 ·exact Or.inl h
 ·unfold KI at h;rw [List.mem_append,List.mem_cons] at h;rcases h with h|h|h
  ·exact Or.inl (List.takeWhile_subset _ h)
  ·exact Or.inr h
  ·exact Or.inl (List.dropWhile_subset _ h)
abbrev pln (p:List Nat):A:= .sl 1 (p.map λn=>[vi (n:Nat)])
abbrev plc (p:List Nat):List A:=[pln p]
mutual
theorem jog:∀t:T,(jjn t).length=nodes t
 | .mk n us=>by
  rw [jjn,nodes,List.length_append,jfL us 0];simp;omega
theorem jfL:∀(us:List T) (i:Nat),(jel i us).length=jD us
 | [],i=>rfl
 | t::ts,i=>by
  rw [jel,jD,List.length_append,List.length_map,jog t,jfL ts (i+1)]
end
def okP:List Nat->T->Prop
 | [],_=>True
 | i::p,t=>i < t.args.length/\okP p (t.args.getD i (.mk [] []))
theorem jmv {ts:List T} {i:Nat} (h:i < ts.length):ts.getD i (.mk [] [])=ts[i]:=by rw [List.getD_eq_getElem?_getD,List.getElem?_eq_getElem h];rfl
mutual
theorem jrm:∀(t:T),∀p∈jjn t,okP p t/\p.length<=nodes t
 | .mk n us=>λp hp=>by
  rw [jjn,List.mem_append] at hp;rcases hp with hp|hp
  ·obtain ⟨j,q,rfl,h1,h2,h3⟩:=jjm us 0 p hp;refine ⟨?_,?_⟩
   ·show (0+j) < us.length/\okP q (us.getD (0+j) _);rw [Nat.zero_add];exact ⟨h1,h2⟩
   ·rw [List.length_cons,nodes];omega
  ·rw [List.mem_singleton] at hp;subst hp;exact ⟨trivial,by simp⟩
theorem jjm:∀(us:List T) (i:Nat),∀p∈jel i us,∃j q,p=(i+j)::q/\j < us.length/\okP q (us.getD j (.mk [] []))/\q.length<=jD us
 | [],i,p,hp=>by rw [jel] at hp;cases hp
 | t::ts,i,p,hp=>by
  rw [jel,List.mem_append] at hp;rcases hp with hp|hp
  ·obtain ⟨q,hq,rfl⟩:=List.mem_map.1 hp;obtain ⟨h1,h2⟩:=jrm t q hq;exact ⟨0,q,rfl,by simp,h1,by rw [jD];omega⟩
  ·obtain ⟨j,q,rfl,h1,h2,h3⟩:=jjm ts (i+1) p hp;exact ⟨j+1,q,by rw [show i+1+j=i+(j+1) by omega],by simpa using h1,by simpa using h2,by rw [jD];omega⟩
end
theorem jmR {q:T->Prop} (hq:∀t,q t-> ∀u∈t.args,q u):∀ {p:List Nat} {t:T},okP p t->q t->q (atT p t)
 | [],_,_,h=>h
 | i::p,t,hp,h=>by
  obtain ⟨h1,h2⟩:=hp;refine jmR (p:=p) hq h2 ?_;rw [jmv h1];exact hq t h _ (List.getElem_mem _)
theorem jeL {n:List UInt8} (h:jk n=true):n.length<=4:=by
 cases n with
 | nil=>simp
 | cons c r=>
  simp only [jk,Bool.and_eq_true,decide_eq_true_eq] at h;rw [List.length_cons];omega
theorem joE {n:List UInt8} (h:ye n=true):n.length<=6:=by
 cases n with
 | nil=>simp
 | cons c r=>
  simp only [ye,Bool.and_eq_true,decide_eq_true_eq] at h;rw [List.length_cons];omega
theorem jbj:∀t:T,z6 t=true->tsz t<=10 * nodes t:=by
 refine T.ind λt ih hk=> ?_;have hL:∀us:List T,(∀u∈us,tsz u<=10 * nodes u)->yf us<=10 * jD us:=by
  intro us;induction us with
  | nil=>intro _;simp [yf]
  | cons u us ih2=>
   intro h;have:=h u (by simp);have:=ih2 λw hw=>h w (by simp [hw]);simp only [yf,jD];omega
 have h1:=hL t.args λu hu=>ih u hu (zE hk u hu);rw [kO,jP];rw [yd] at hk;cases hv:jk t.name with
 | true=>
  rw [hv,if_pos rfl] at hk;have:=jeL hv;rw [List.isEmpty_iff.1 hk] at h1 ⊢;simp only [List.length_nil,yf] at h1 ⊢;omega
 | false=>
  rw [hv,if_neg Bool.false_ne_true,Bool.and_eq_true,Bool.and_eq_true,decide_eq_true_eq] at hk;have:=joE hk.1;omega
theorem joD {u:ju} {Z:Nat} (hZ:1<=Z) (hu:∀q∈u,nodes q.2<=Z):∀t:T,nodes (sub u t)<=nodes t * Z:=by
 refine T.ind λt ih=> ?_;cases hv:jk t.name with
 | true=>
  have h1:=K1 t;have h2:1 * Z<=nodes t * Z:=Nat.mul_le_mul_right Z h1;rw [qX hv,Ji];cases hl:look u t.name with
  | none=>show 1+0<=_;omega
  | some r=>have:nodes r<=Z:=hu _ (Kq hl);show nodes r<=_;omega
 | false=>
  have hL:∀us:List T,(∀v∈us,nodes (sub u v)<=nodes v * Z)->jD (us.map (sub u))<=jD us * Z:=by
   intro us;induction us with
   | nil=>intro _;simp [jD]
   | cons v us ih2=>
    intro h;have:=h v (by simp);have:=ih2 λw hw=>h w (by simp [hw]);simp only [List.map_cons,jD,Nat.add_mul];omega
  have:=hL t.args ih;rw [jP,K6 hv,jP t,Nat.add_mul];omega
theorem jbg {t u:T} (h:u∈t.args):nodes u < nodes t:=by
 have:=Zp h;have:=jP t;omega
def Vs (t:T):Prop:=z6 t=true/\nodes t<=30
theorem Vs.args {t:T} (h:Vs t):∀u∈t.args,Vs u:=λu hu=>⟨zE h.1 u hu,by have:=jbg hu;have:=h.2;omega⟩
theorem Vs.tz {t:T} (h:Vs t):Tz t:=by
 have:=jbj t h.1;have:=h.2;unfold Tz;omega
def RS (rs:List T):Prop:=rs.length<=10/\ ∀r∈rs,r.args.length=2/\Vs (jcs r)/\Vs (jcu r)
theorem RS.ok {rs:List T} (h:RS rs):jsh rs:=λr hr=>⟨(h.2 r hr).2.1.1,(h.2 r hr).2.2.1⟩
def EX (root:Bool) (t:T):Prop:=(nodes t<=31/\Tz t)/\(∀u∈t.args,Vs u)/\(root=true->Vs t)
def jB8 (t:T) (o:Option T):Option Out:=match o with|some u=>some (.tup [tm u,vb true],[])|none=>some (.tup [tm t,vb false],[])
theorem EX.at {root:Bool} {t:T} (h:EX root t) {p:List Nat} (hp:okP p t) (hne:¬(p = []/\root=false)):Vs (atT p t):=by
 obtain ⟨_,h1,h2⟩:=h;cases p with
 | nil=>
  cases root
  ·exact absurd ⟨rfl,rfl⟩ hne
  ·exact h2 rfl
 | cons i p=>
  obtain ⟨a,b⟩:=hp;refine jmR (p:=p) (q:=Vs) (λ_ h=>h.args) b ?_;rw [jmv a];exact h1 _ (List.getElem_mem _)
def jwp (o:Option T):Option Out:=match o with|some u=>some (.tup [tm u,vb true],[])|none=>some (.tup [.agg [sv [],.sl 2 []],vb false],[])
def Srt (l:List (List UInt8)):Prop:=l.Pairwise λx y=>x < y
theorem Zz (x y:List UInt8):zF x y=decide (x < y):=Go.Proofs.bytesLess_eq x y
theorem jwg {x y:List UInt8} (h1:¬x < y) (h2:x≠y):y < x:=by
 have h3:y<=x:=List.not_lt.1 h1;exact Std.lt_of_le_of_ne h3 (Ne.symm h2)
mutual
def jym:T->List (List UInt8)
 | .mk n us=>(if jk n then [] else [n])++jrL us
def jrL:List T->List (List UInt8)
 | []=>[]
 | t::ts=>jym t++jrL ts
end
theorem jlD {n:List UInt8} (h:jk n=true):ye n=false:=by
 cases n with
 | nil=>rfl
 | cons c r=>
  simp only [jk,Bool.and_eq_true,upc,KD,decide_eq_true_eq] at h;have:Y8 c=false:=by unfold Y8 KD;rw [Bool.and_eq_false_iff];left;rw [decide_eq_false_iff_not];omega
  simp [ye,this]
def jAQ (l vs:List (List UInt8)) (k:Nat) (r:List (List UInt8)):Prop:=jo4 l vs k r/\(l.Nodup->r.Nodup)
def jCf (r:List (List UInt8)):Ord':=⟨r,List.replicate r.length 1,1⟩
theorem jpz {ts:List T} {t:T} (h:t∈ts):yI t<=KB ts:=by
 induction ts with
 | nil=>cases h
 | cons u us ih=>
  simp only [KB];rcases List.mem_cons.1 h with h|h
  ·subst h;omega
  ·have:=ih h;omega
theorem jh9 (t:T) (hs:Tz t) (he:¬t.name = [61]):G 76 [tm t]=some (vb (ye t.name && kW t),[]):=by
 have e1:=Z8 t.name ((kV t).1 hs.wf).1;have e2:=YO t hs.wf hs;rw [g76];cases h:ye t.name<;>rw [h] at e1
 ·simp only [jd,he,e1,Bool.false_and]
 ·simp only [jd,he,e1,e2,Bool.true_and]
def EX' (root:Bool) (t:T):Prop:=EX root t/\(root=false->t.name = [61]/\t.args.length=2)
theorem jmQ {us:List T} (h:∀u∈us,z6 u=true):yf us<=10 * jD us:=by
 induction us with
 | nil=>simp [yf]
 | cons u us ih=>
  have:=jbj u (h u (by simp));have:=ih λw hw=>h w (by simp [hw]);simp only [yf,jD];omega
theorem jmS {t:T} (h:z6 t=true):¬t.name = [61]:=λe=>by
 rw [yd,e] at h;exact absurd h (by
  rw [show jk [61]=false from by decide,if_neg Bool.false_ne_true,show ye [61]=false from by decide];simp)
theorem jmf {t:T} (ht:Tz t) (h:z6 t=true\/(t.name = [61]/\t.args.length=2/\ ∀u∈t.args,z6 u=true)):G 185 [tm t]=some (vb (jE t),[]):=by
 have e2:=YO t ht.wf ht;rw [jz6];rcases h with h|⟨h1,h2,h3⟩
 ·have hv:kW t=jE t:=by unfold kW;rw [h,Bool.and_true]
  rw [hv] at e2;have e1:=jh9 t ht (jmS h);rw [hv] at e1;cases hs:jE t<;>rw [hs] at e1 e2
  ·rw [Bool.and_false] at e1;simp only [jd,e1,e2]
  ·simp only [jd,e2]
 ·have hk:z6 t=false:=by
   cases hk:z6 t with
   | false=>rfl
   | true=>exact absurd h1 (jmS hk)
  have hv:kW t=false:=by unfold kW;rw [hk,Bool.and_false]
  rw [hv] at e2;have e1:=jdN t ht.wf ht h1;obtain ⟨_,_,ma,mb⟩:=YI h2;have he:jeW t=jE t:=by unfold jeW;rw [decide_eq_true h2,h3 _ ma,h3 _ mb];simp
  rw [he] at e1;simp only [jd,e1,e2]
def jB7 (o:Option (T × Nat)):Option Out:=match o with|some r=>some (.tup [tm r.1,vi (r.2:Nat),vb true],[])|none=>some (.tup [.agg [sv [],.sl 2 []],vi 0,vb false],[])
structure Law3 {α:Type} (c:α->α->Int):Prop where
 zero:∀a b,c a b=0↔a=b
 flip:∀a b,c b a = -(c a b)
 trans:∀a b d,c a b < 0->c b d < 0->c a d < 0
section
variable {α:Type} {c:α->α->Int}
def Asc (c:α->α->Int) (l:List α):Prop:=l.Pairwise λa b=>c a b < 0
theorem jgU (h:Law3 c):∀ {l m:List α},Asc c l->Asc c m->(∀x,x∈l↔x∈m)->l=m
 | [],[],_,_,_=>rfl
 | [],b::m,_,_,hx=>absurd ((hx b).2 (by simp)) (by simp)
 | a::l,[],_,_,hx=>absurd ((hx a).1 (by simp)) (by simp)
 | a::l,b::m,h1,h2,hx=>by
  obtain ⟨g1,g2⟩:=List.pairwise_cons.1 h1;obtain ⟨k1,k2⟩:=List.pairwise_cons.1 h2;have hab:a=b:=by
   rcases List.mem_cons.1 ((hx a).1 (by simp)) with e|e
   ·exact e
   rcases List.mem_cons.1 ((hx b).2 (by simp)) with e'|e'
   ·exact e'.symm
   ·have q1:=k1 a e;have q2:=g1 b e';have q3:=h.flip a b;omega
  subst hab;have:l=m:=jgU h g2 k2 λx=>by
   constructor
   ·intro hxl;rcases List.mem_cons.1 ((hx x).1 (by simp [hxl])) with e|e
    ·have:=g1 x hxl;rw [e,(h.zero a a).2 rfl] at this;omega
    ·exact e
   ·intro hxm;rcases List.mem_cons.1 ((hx x).2 (by simp [hxm])) with e|e
    ·have:=k1 x hxm;rw [e,(h.zero a a).2 rfl] at this;omega
    ·exact e
  rw [this]
def jaj (eq:α->α->Bool):List α->List α
 | []=>[]
 | a::l=>(match jaj eq l with | []=>[a]|b::m=>if eq a b then b::m else a::b::m)
theorem jfh (h:Law3 c) {eq:α->α->Bool} (he:∀a b,eq a b=true↔a=b):∀ {l:List α},l.Pairwise (λa b=>¬c b a < 0)->Asc c (jaj eq l)/\ ∀x,x∈jaj eq l↔x∈l
 | [],_=>⟨List.Pairwise.nil,λx=>Iff.rfl⟩
 | a::l,hp=>by
  obtain ⟨g1,g2⟩:=List.pairwise_cons.1 hp;obtain ⟨k1,k2⟩:=jfh h he g2;rw [jaj];cases hc:jaj eq l with
  | nil=>
   rw [hc] at k2;refine ⟨by unfold Asc;simp,λx=> ?_⟩;show x ∈ [a]↔_;constructor
   ·intro hx;simp only [List.mem_singleton] at hx;simp [hx]
   ·intro hx;rcases List.mem_cons.1 hx with e|e
    ·simp [e]
    ·exact absurd ((k2 x).2 e) (by simp)
  | cons b m=>
   rw [hc] at k1 k2;have hbl:b∈l:=(k2 b).1 (by simp);by_cases hab:a=b
   ·show Asc c (if eq a b then b::m else a::b::m)/\_;have he':=(he a b).2 hab;have e2:(if eq a b then b::m else a::b::m)=b::m:=if_pos he';refine ⟨by rw [e2];exact k1,λx=> ?_⟩;show x∈(if eq a b then b::m else a::b::m)↔_;rw [e2,k2,List.mem_cons];constructor
    ·exact Or.inr
    ·rintro (e|e)
     ·rw [e,hab];exact hbl
     ·exact e
   ·have he':¬eq a b=true:=λe=>hab ((he a b).1 e);have e2:(if eq a b then b::m else a::b::m)=a::b::m:=if_neg he';have hlt:c a b < 0:=by
     have q1:=g1 b hbl;have q2:=h.flip a b;have q3:c a b≠0:=λe=>hab ((h.zero a b).1 e);omega
    refine ⟨?_,λx=> ?_⟩
    ·show Asc c (if eq a b then b::m else a::b::m);rw [e2];refine List.pairwise_cons.2 ⟨λx hx=> ?_,k1⟩;rcases List.mem_cons.1 hx with e|e
     ·rw [e];exact hlt
     ·exact h.trans a b x hlt ((List.pairwise_cons.1 k1).1 x e)
    ·show x∈(if eq a b then b::m else a::b::m)↔_;rw [e2,List.mem_cons,k2,List.mem_cons]
theorem Qq {p:α->Bool} :∀ {l:List α} {a:α},a∈l.takeWhile p->p a=true
 | x::l,a,h=>by
  by_cases hx:p x=true
  ·rw [List.takeWhile_cons_of_pos hx] at h;rcases List.mem_cons.1 h with e|e
   ·rw [e];exact hx
   ·exact Qq e
  ·rw [List.takeWhile_cons_of_neg hx] at h;cases h
def Jm (c:α->α->Int) (l:List α) (x:α):List α:=if (l.dropWhile λa=>decide (c a x < 0)).head?.any (λb=>decide (c b x=0)) then l else l.takeWhile (λa=>decide (c a x < 0))++x::l.dropWhile λa=>decide (c a x < 0)
theorem jav (h:Law3 c) {l:List α} (hl:Asc c l) (x:α):Asc c (Jm c l x)/\ ∀y,y∈Jm c l x↔y∈l\/y=x:=by
 have e:=List.takeWhile_append_dropWhile (p:=λa=>decide (c a x < 0)) (l:=l);have ht:∀a∈l.takeWhile (λa=>decide (c a x < 0)),c a x < 0:=λa ha=>of_decide_eq_true (Qq (p:=λa=>decide (c a x < 0)) ha);unfold Jm;generalize l.takeWhile (λa=>decide (c a x < 0))=t at *;cases hd:l.dropWhile (λa=>decide (c a x < 0)) with
 | nil=>
  rw [hd,List.append_nil] at e;subst e;rw [if_neg (by simp)];refine ⟨?_,λy=>by simp⟩;refine List.pairwise_append.2 ⟨hl,by simp,λa ha b hb=> ?_⟩;simp only [List.mem_singleton] at hb;rw [hb];exact ht a ha
 | cons b m=>
  have hb:¬c b x < 0:=by
   intro hb;have:=List.head?_dropWhile_not (p:=λa=>decide (c a x < 0)) l;rw [hd] at this;simp [hb] at this
  rw [hd] at e;by_cases h0:c b x=0
  ·rw [if_pos (by simp [h0])];refine ⟨hl,λy=>⟨Or.inl,λhy=> ?_⟩⟩;rcases hy with hy|hy
   ·exact hy
   ·rw [hy,<-(h.zero b x).1 h0,<-e];simp
  ·rw [if_neg (by simp [h0])];rw [<-e] at hl;obtain ⟨p1,p2,p3⟩:=List.pairwise_append.1 hl;have hxb:c x b < 0:=by have:=h.flip b x;omega
   refine ⟨List.pairwise_append.2 ⟨p1,List.pairwise_cons.2 ⟨λy hy=> ?_,p2⟩,λa ha y hy=> ?_⟩,λy=> ?_⟩
   ·rcases List.mem_cons.1 hy with e'|e'
    ·rw [e'];exact hxb
    ·exact h.trans x b y hxb ((List.pairwise_cons.1 p2).1 y e')
   ·rcases List.mem_cons.1 hy with e'|e'
    ·rw [e'];exact ht a ha
    ·exact p3 a ha y e'
   ·rw [<-e];simp only [List.mem_append,List.mem_cons];constructor
    ·rintro (h|h|h|h)
     ·exact Or.inl (Or.inl h)
     ·exact Or.inr h
     ·exact Or.inl (Or.inr (Or.inl h))
     ·exact Or.inl (Or.inr (Or.inr h))
    ·rintro ((h|h|h)|h)
     ·exact Or.inl h
     ·exact Or.inr (Or.inr (Or.inl h))
     ·exact Or.inr (Or.inr (Or.inr h))
     ·exact Or.inr (Or.inl h)
def zo (c:α->α->Int) (l:List α):List α:=l.foldl (Jm c) []
theorem KZ (h:Law3 c) (l:List α):Asc c (zo c l)/\ ∀y,y∈zo c l↔y∈l:=by
 have key:∀(l m:List α),Asc c m->Asc c (l.foldl (Jm c) m)/\ ∀y,y∈l.foldl (Jm c) m↔y∈m\/y∈l:=by
  intro l;induction l with
  | nil=>intro m hm;exact ⟨hm,λy=>by simp⟩
  | cons x l ih=>
   intro m hm;obtain ⟨g1,g2⟩:=jav h hm x;obtain ⟨k1,k2⟩:=ih _ g1;refine ⟨k1,λy=> ?_⟩;rw [List.foldl_cons,k2,g2,List.mem_cons,or_assoc]
 obtain ⟨g1,g2⟩:=key l [] List.Pairwise.nil;exact ⟨g1,λy=>by rw [zo,g2];simp⟩
theorem jtm (h:Law3 c) {eq:α->α->Bool} (he:∀a b,eq a b=true↔a=b) {l s:List α} (hs:s.Pairwise λa b=>¬c b a < 0) (hm:∀x,x∈s↔x∈l):jaj eq s=zo c l:=by
 obtain ⟨g1,g2⟩:=jfh h he hs;obtain ⟨k1,k2⟩:=KZ h l;exact jgU h g1 k1 λx=>by rw [g2,k2,hm]
end
theorem jwe {α β γ:Type} {f:γ->α} {g:γ->β} {c:α->α->Int} {d:β->β->Int} (hc:Law3 c) (hd:Law3 d) (hi:∀x y,f x=f y->g x=g y->x=y):Law3 λx y:γ=>if c (f x) (f y)≠0 then c (f x) (f y) else d (g x) (g y):=by
 refine ⟨λa b=> ?_,λa b=> ?_,λa b e=> ?_⟩
 ·show (if c (f a) (f b)≠0 then c (f a) (f b) else d (g a) (g b))=0↔_;by_cases h:c (f a) (f b)=0
  ·rw [if_neg (λh'=>h' h),hd.zero];exact ⟨λh2=>hi a b ((hc.zero _ _).1 h) h2,λh2=>by rw [h2]⟩
  ·rw [if_pos h];exact ⟨λh2=>absurd h2 h,λh2=>by rw [h2] at h;exact absurd ((hc.zero _ _).2 rfl) h⟩
 ·show (if c (f b) (f a)≠0 then c (f b) (f a) else d (g b) (g a)) = -(if c (f a) (f b)≠0 then c (f a) (f b) else d (g a) (g b));rw [hc.flip (f a) (f b),hd.flip (g a) (g b)];by_cases h:c (f a) (f b)=0
  ·rw [if_neg (by omega),if_neg (by omega)]
  ·rw [if_pos (by omega),if_pos (by omega)]
 ·show (if c (f a) (f b)≠0 then c (f a) (f b) else d (g a) (g b)) < 0->(if c (f b) (f e)≠0 then c (f b) (f e) else d (g b) (g e)) < 0->(if c (f a) (f e)≠0 then c (f a) (f e) else d (g a) (g e)) < 0;by_cases h1:c (f a) (f b)=0
  ·have e1:=(hc.zero _ _).1 h1;rw [if_neg (λh'=>h' h1),e1];by_cases h2:c (f b) (f e)=0
   ·rw [if_neg (λh'=>h' h2),if_neg (λh'=>h' h2)];exact hd.trans _ _ _
   ·rw [if_pos h2,if_pos h2];exact λ_ h=>h
  ·rw [if_pos h1];by_cases h2:c (f b) (f e)=0
   ·have e2:=(hc.zero _ _).1 h2;rw [if_neg (λh'=>h' h2),<-e2,if_pos h1];exact λh _=>h
   ·rw [if_pos h2];intro h3 h4;have:=hc.trans _ _ _ h3 h4;rw [if_pos (by omega)];exact this
def kz (x y:List UInt8):Int:=if zF x y then -1 else if x=y then 0 else 1
theorem Jc:Law3 kz:=by
 have irr:=YW;have asy:∀x y,zF x y=true->zF y x=true->False:=λx y h1 h2=>by
  rw [Zz,decide_eq_true_eq] at h1 h2;exact absurd (List.lt_trans h1 h2) (List.lt_irrefl _)
 have tot:∀x y,x=y\/zF x y=true\/zF y x=true:=λx y=>by
  rw [Zz,Zz,decide_eq_true_eq,decide_eq_true_eq];rcases Classical.em (x < y) with h|h
  ·exact Or.inr (Or.inl h)
  rcases Classical.em (y < x) with h'|h'
  ·exact Or.inr (Or.inr h')
  ·exact Or.inl (List.le_antisymm (List.not_lt.1 h') (List.not_lt.1 h))
 have tr:∀x y z,zF x y=true->zF y z=true->zF x z=true:=λx y z h1 h2=>by
  rw [Zz,decide_eq_true_eq] at *;exact List.lt_trans h1 h2
 have neg:∀x y,kz x y < 0↔zF x y=true:=λx y=>by
  unfold kz;cases h:zF x y with
  | true=>simp
  | false=>
   rw [if_neg Bool.false_ne_true];split<;>simp
 refine ⟨λa b=> ?_,λa b=> ?_,λa b d h1 h2=>(neg _ _).2 (tr _ _ _ ((neg _ _).1 h1) ((neg _ _).1 h2))⟩
 ·unfold kz;cases h:zF a b with
  | true=>rw [if_pos rfl];exact ⟨λh'=>by omega,λe=>by rw [e,irr] at h;cases h⟩
  | false=>
   rw [if_neg Bool.false_ne_true];by_cases e:a=b
   ·rw [if_pos e];exact ⟨λ_=>e,λ_=>rfl⟩
   ·rw [if_neg e];exact ⟨λh'=>by omega,λh'=>absurd h' e⟩
 ·unfold kz;rcases tot a b with e|e|e
  ·subst e;rw [irr,if_neg Bool.false_ne_true,if_pos rfl];rfl
  ·have h2:zF b a=false:=by
    cases h:zF b a with
    | false=>rfl
    | true=>exact (asy _ _ e h).elim
   have hne:¬b=a:=λh=>by rw [h,irr] at e;cases e
   rw [e,h2,if_neg Bool.false_ne_true,if_neg hne,if_pos rfl];rfl
  ·have h2:zF a b=false:=by
    cases h:zF a b with
    | false=>rfl
    | true=>exact (asy _ _ e h).elim
   have hne:¬a=b:=λh=>by rw [h,irr] at e;cases e
   rw [e,h2,if_neg Bool.false_ne_true,if_neg hne,if_pos rfl]
def kA (x y:Nat):Int:=if x < y then -1 else if y < x then 1 else 0
theorem ZT:Law3 kA:=by
 refine ⟨λa b=> ?_,λa b=> ?_,λa b d=> ?_⟩<;>unfold kA
 ·split
  ·omega
  ·split<;>omega
 ·split<;>split<;>(try split)<;>omega
 ·intro h1 h2;by_cases h:a < b
  ·by_cases h3:b < d
   ·rw [if_pos (by omega)];omega
   ·rw [if_neg h3] at h2;split at h2<;>omega
  ·rw [if_neg h] at h1;split at h1<;>omega
def vF (n:List UInt8):Nat:=if jk n then 0 else 1
abbrev Key:=Nat × (List UInt8 × Nat)
def cK (x y:Key):Int:=if kA x.1 y.1≠0 then kA x.1 y.1 else if kz x.2.1 y.2.1≠0 then kz x.2.1 y.2.1 else kA x.2.2 y.2.2
theorem Zh:Law3 cK:=by
 have h2:Law3 λx y:List UInt8 × Nat=>if kz x.1 y.1≠0 then kz x.1 y.1 else kA x.2 y.2:=jwe (f:=Prod.fst) (g:=Prod.snd) Jc ZT λx y h1 h2=>Prod.ext h1 h2;exact jwe (f:=Prod.fst) (g:=Prod.snd) ZT h2 λx y h1 h2=>Prod.ext h1 h2
def zU (t:T):Key:=(vF t.name,(t.name,t.args.length))
mutual
def zJ (a b:T):Int:=
 match a with
 | .mk n us=>if cK (zU (.mk n us)) (zU b)≠0 then cK (zU (.mk n us)) (zU b) else zl us b.args
termination_by structural a
def zl (xs bs:List T):Int:=
 match xs with
 | []=>0
 | a::xs=>(match bs with | []=>0|b::bs=>if zJ a b≠0 then zJ a b else zl xs bs)
termination_by structural xs
end
theorem Ki (a b:T):zJ a b=if cK (zU a) (zU b)≠0 then cK (zU a) (zU b) else zl a.args b.args:=by cases a;rfl
theorem jdG {a b:T} (h:zU a=zU b):a.name=b.name/\a.args.length=b.args.length:=by
 unfold zU at h;simp only [Prod.mk.injEq] at h;exact h.2
theorem jw1 {a b:T} (h1:a.name=b.name) (h2:a.args=b.args):a=b:=by
 cases a;cases b;simp only [T.name,T.args] at h1 h2;rw [h1,h2]
theorem jvn:∀ {xs bs:List T},(∀u∈xs,∀v,zJ u v=0↔u=v)->xs.length=bs.length->(zl xs bs=0↔xs=bs)
 | [],[],_,_=>by simp [zl]
 | [],_::_,_,h=>by cases h
 | _::_,[],_,h=>by cases h
 | a::xs,b::bs,h,hl=>by
  rw [zl];have ih:=jvn (xs:=xs) (bs:=bs) (λu hu=>h u (by simp [hu])) (Nat.succ.inj hl);by_cases h0:zJ a b=0
  ·rw [if_neg (λh'=>h' h0),ih,(h a (by simp) b).1 h0];simp
  ·rw [if_pos h0];exact ⟨λh'=>absurd h' h0,λe=>by rw [List.cons.injEq] at e;exact (h a (by simp) b).2 e.1⟩
theorem juk:∀ {xs bs:List T},(∀u∈xs,∀v,zJ v u = -(zJ u v))->xs.length=bs.length->zl bs xs = -(zl xs bs)
 | [],[],_,_=>by simp [zl]
 | [],_::_,_,h=>by cases h
 | _::_,[],_,h=>by cases h
 | a::xs,b::bs,h,hl=>by
  rw [zl,zl,h a (by simp) b,juk (xs:=xs) (bs:=bs) (λu hu=>h u (by simp [hu])) (Nat.succ.inj hl)];by_cases h0:zJ a b=0
  ·rw [if_neg (by omega),if_neg (by omega)]
  ·rw [if_pos (by omega),if_pos (by omega)]
theorem jrP (z:∀u v:T,zJ u v=0↔u=v):∀ {xs bs ds:List T},(∀u∈xs,∀v w,zJ u v < 0->zJ v w < 0->zJ u w < 0)->xs.length=bs.length->bs.length=ds.length->zl xs bs < 0->zl bs ds < 0->zl xs ds < 0
 | [],_,_,_,_,_,h1,_=>by simp [zl] at h1
 | a::xs,[],_,_,h,_,_,_=>by cases h
 | a::xs,b::bs,[],_,_,h,_,_=>by cases h
 | a::xs,b::bs,d::ds,h,hl,hl2,h1,h2=>by
  rw [zl] at h1 h2 ⊢;by_cases c1:zJ a b=0
  ·have e1:=(z a b).1 c1;rw [if_neg (λh'=>h' c1)] at h1;rw [e1];by_cases c2:zJ b d=0
   ·rw [if_neg (λh'=>h' c2)] at h2;rw [if_neg (λh'=>h' c2)];exact jrP z (λu hu=>h u (by simp [hu])) (Nat.succ.inj hl) (Nat.succ.inj hl2) h1 h2
   ·rw [if_pos c2] at h2;rw [if_pos c2];exact h2
  ·rw [if_pos c1] at h1;by_cases c2:zJ b d=0
   ·rw [<-(z b d).1 c2,if_pos c1];exact h1
   ·rw [if_pos c2] at h2;have:=h a (by simp) b d h1 h2;rw [if_pos (by omega)];exact this
theorem jpu:Law3 zJ:=by
 have z:∀a b:T,zJ a b=0↔a=b:=by
  refine T.ind λa ih b=> ?_;rw [Ki];by_cases h:cK (zU a) (zU b)=0
  ·have hk:=(Zh.zero _ _).1 h;obtain ⟨h1,h2⟩:=jdG hk;rw [if_neg (λh'=>h' h),jvn ih h2];exact ⟨λe=>jw1 h1 e,λe=>by rw [e]⟩
  ·rw [if_pos h];exact ⟨λh'=>absurd h' h,λe=>by rw [e] at h;exact absurd ((Zh.zero _ _).2 rfl) h⟩
 refine ⟨z,?_,?_⟩
 ·refine T.ind λa ih b=> ?_;rw [Ki,Ki a b,Zh.flip (zU a) (zU b)];by_cases h:cK (zU a) (zU b)=0
  ·obtain ⟨_,h2⟩:=jdG ((Zh.zero _ _).1 h);rw [if_neg (by omega),if_neg (by omega),juk ih h2]
  ·rw [if_pos (by omega),if_pos (by omega)]
 ·refine T.ind λa ih b d h1 h2=> ?_;rw [Ki] at h1 h2 ⊢;by_cases c1:cK (zU a) (zU b)=0
  ·have e1:=(Zh.zero _ _).1 c1;rw [if_neg (λh'=>h' c1)] at h1;rw [e1];by_cases c2:cK (zU b) (zU d)=0
   ·have e2:=(Zh.zero _ _).1 c2;rw [if_neg (λh'=>h' c2)] at h2;rw [if_neg (λh'=>h' c2)];exact jrP z ih (jdG e1).2 (jdG e2).2 h1 h2
   ·rw [if_pos c2] at h2;rw [if_pos c2];exact h2
  ·rw [if_pos c1] at h1;by_cases c2:cK (zU b) (zU d)=0
   ·rw [<-(Zh.zero _ _).1 c2,if_pos c1];exact h1
   ·rw [if_pos c2] at h2;have:=Zh.trans _ _ _ h1 h2;rw [if_pos (by omega)];exact this
def upN:List UInt8->Bool
 | []=>false
 | c::_=>upc c
mutual
def val (M:List UInt8->List Int->Int) (e:List UInt8->Int):T->Int
 | .mk n us=>if us.isEmpty && upN n then e n else M n (jt0 M e us)
def jt0 (M:List UInt8->List Int->Int) (e:List UInt8->Int):List T->List Int
 | []=>[]
 | t::ts=>val M e t::jt0 M e ts
end
theorem jj8 (M:List UInt8->List Int->Int) (e:List UInt8->Int):∀ts:List T,jt0 M e ts=ts.map (val M e)
 | []=>rfl
 | t::ts=>by rw [jt0,jj8 M e ts,List.map_cons]
theorem jby (M:List UInt8->List Int->Int) (e:List UInt8->Int) (t:T):val M e t=if t.args.isEmpty && upN t.name then e t.name else M t.name (t.args.map (val M e)):=by
 obtain ⟨n,us⟩:=t;rw [val,jj8];rfl
theorem jcR {n:List UInt8} (h:jk n=true):upN n=true:=by
 cases n with
 | nil=>cases h
 | cons c r=>simp only [jk,Bool.and_eq_true] at h;exact h.1
theorem ZC {n:List UInt8} (h:ye n=true):upN n=false:=by
 cases n with
 | nil=>rfl
 | cons c r=>
  simp only [ye,Bool.and_eq_true] at h;have h:=h.1;show upc c=false;cases hu:upc c with
  | false=>rfl
  | true=>
   simp only [upc,Y8,KD,Bool.and_eq_true,decide_eq_true_eq] at h hu;omega
theorem jbi {t:T} (h:z6 t=true) (hv:jk t.name=false):ye t.name=true:=by
 rw [yd,hv,if_neg Bool.false_ne_true,Bool.and_eq_true] at h;exact h.1
section
variable {M:List UInt8->List Int->Int}
theorem Y1 {e:List UInt8->Int} {t:T} (h:z6 t=true) (hv:jk t.name=true):val M e t=e t.name:=by
 rw [jby,Zb h hv,jcR hv];rfl
theorem Ky {e:List UInt8->Int} {t:T} (h:upN t.name=false):val M e t=M t.name (t.args.map (val M e)):=by
 rw [jby,h,Bool.and_false,if_neg Bool.false_ne_true]
theorem jhL (u:ju) (e:List UInt8->Int):∀t:T,z6 t=true->val M e (sub u t)=val M (λx=>val M e (Ji u x)) t:=by
 refine T.ind λt ih=> ?_;intro ht;cases hv:jk t.name with
 | true=>rw [Y1 ht hv,qX hv]
 | false=>
  have hs:=ZC (jbi ht hv);rw [Ky hs,yB hv,Ky (t:= .mk t.name (t.args.map (sub u))) hs];show M t.name ((t.args.map (sub u)).map (val M e))=_;rw [List.map_map];congr 1;exact List.map_congr_left λa ha=>ih a ha (zE ht a ha)
theorem jf6 {e e':List UInt8->Int} :∀t:T,z6 t=true->(∀x∈jS t,e x=e' x)->val M e t=val M e' t:=by
 refine T.ind λt ih=> ?_;intro ht h;rw [qu] at h;cases hv:jk t.name with
 | true=>
  rw [Y1 ht hv,Y1 ht hv];rw [hv,if_pos rfl] at h;exact h _ (by simp)
 | false=>
  have hs:=ZC (jbi ht hv);rw [Ky hs,Ky hs];rw [hv,if_neg Bool.false_ne_true] at h;congr 1;refine List.map_congr_left λa ha=>ih a ha (zE ht a ha) λx hx=>h x ?_;have:∀us:List T,a∈us->x∈zf us:=by
   intro us;induction us with
   | nil=>intro h;cases h
   | cons v vs ih=>
    intro h;rw [zf];rcases List.mem_cons.1 h with rfl|h
    ·exact List.mem_append_left _ hx
    ·exact List.mem_append_right _ (ih h)
  exact this _ ha
def Ext (m m':ju):Prop:=∀x r,look m x=some r->look m' x=some r
theorem Ext.refl (m:ju):Ext m m:=λ_ _ h=>h
theorem Ext.trans {a b c:ju} (h:Ext a b) (h':Ext b c):Ext a c:=λx r hx=>h' x r (h x r hx)
variable {good:Int->Prop}
theorem jeK (hM:∀n vs,good (M n vs)) {e:List UInt8->Int} (he:∀x,good (e x)) (t:T):good (val M e t):=by
 rw [jby];split
 ·exact he _
 ·exact hM _ _
def jAV (M:List UInt8->List Int->Int) (good:Int->Prop) (rs:List T):Prop:=∀r∈rs,∀e:List UInt8->Int,(∀x,good (e x))->val M e (jcs r)=val M e (jcu r)
end
def dec (n:Nat):Nat->Nat->List Nat
 | 0,_=>[]
 | l+1,k=>k % n::dec n l (k / n)
def enc (n:Nat):List Nat->Nat
 | []=>0
 | v::vs=>v+n * enc n vs
theorem jpI {n:Nat} (hn:1<=n):∀vs:List Nat,(∀v∈vs,v < n)->enc n vs < n ^ vs.length
 | [],_=>by simp [enc]
 | v::vs,h=>by
  have h1:=h v (by simp);have h2:=jpI hn vs λw hw=>h w (by simp [hw]);rw [enc,List.length_cons,Nat.pow_succ,Nat.mul_comm (n ^ vs.length) n];have:n * (enc n vs+1)<=n * n ^ vs.length:=Nat.mul_le_mul_left n h2;rw [Nat.mul_add] at this;omega
theorem jmn {n:Nat} (hn:1<=n):∀vs:List Nat,(∀v∈vs,v < n)->dec n vs.length (enc n vs)=vs
 | [],_=>rfl
 | v::vs,h=>by
  have h1:=h v (by simp);have h2:=jmn hn vs λw hw=>h w (by simp [hw]);rw [List.length_cons,dec,enc,Nat.add_mul_mod_self_left,Nat.mod_eq_of_lt h1,Nat.add_mul_div_left _ _ (by omega),Nat.div_eq_of_lt h1,Nat.zero_add,h2]
def vnA (l:List (List UInt8)) (n:List UInt8):List (List UInt8):=if l.contains n then l else l++[n]
mutual
def vn (l:List (List UInt8)):T->List (List UInt8)
 | .mk n us=>if us.isEmpty && upN n then vnA l n else vnL l us
def vnL (l:List (List UInt8)):List T->List (List UInt8)
 | []=>l
 | t::ts=>vnL (vn l t) ts
end
theorem jnk (l:List (List UInt8)) (t:T):vn l t=if t.args.isEmpty && upN t.name then vnA l t.name else vnL l t.args:=by cases t;rfl
def VIn (S:List (List UInt8)) (t:T):Prop:=∀x∈jS t,x∈S
theorem joO {S l:List (List UInt8)} {n:List UInt8} (hl:l.Nodup) (hS:∀x∈l,x∈S) (hn:n∈S):(vnA l n).Nodup/\(∀x∈vnA l n,x∈S)/\(∀x∈l,x∈vnA l n)/\n∈vnA l n:=by
 unfold vnA;split
 ·rename_i h;exact ⟨hl,hS,λ_ h=>h,List.contains_iff_mem.1 h⟩
 ·rename_i h;have h:n ∉ l:=λhh=>h (List.contains_iff_mem.2 hh);refine ⟨?_,λx hx=> ?_,λx hx=>List.mem_append_left _ hx,by simp⟩
  ·rw [List.nodup_append];exact ⟨hl,by simp,λa ha b hb=>by simp only [List.mem_singleton] at hb;subst hb;exact λe=>h (e ▸ ha)⟩
  ·rcases List.mem_append.1 hx with hx|hx
   ·exact hS x hx
   ·simp only [List.mem_singleton] at hx;exact hx ▸ hn
theorem jrX {S:List (List UInt8)} :∀(t:T),z6 t=true->VIn S t-> ∀l:List (List UInt8),l.Nodup->(∀x∈l,x∈S)->(vn l t).Nodup/\(∀x∈vn l t,x∈S)/\(∀x∈l,x∈vn l t)/\ ∀x∈jS t,x∈vn l t:=by
 refine T.ind λt ih=> ?_;intro ht hV l hl hS;rw [jnk];unfold VIn at hV;rw [qu] at hV ⊢;cases hv:jk t.name with
 | true=>
  rw [hv,if_pos rfl] at hV;rw [Zb ht hv,jcR hv,if_pos rfl];obtain ⟨q1,q2,q3,q4⟩:=joO hl hS (hV t.name (by simp));exact ⟨q1,q2,q3,λx hx=>by simp only [if_true,List.mem_singleton] at hx;exact hx ▸ q4⟩
 | false=>
  rw [hv,if_neg Bool.false_ne_true] at hV;rw [ZC (jbi ht hv),Bool.and_false,if_neg Bool.false_ne_true];have key:∀us:List T,(∀u∈us,u∈t.args)->(∀x∈zf us,x∈S)-> ∀l:List (List UInt8),l.Nodup->(∀x∈l,x∈S)->(vnL l us).Nodup/\(∀x∈vnL l us,x∈S)/\(∀x∈l,x∈vnL l us)/\ ∀x∈zf us,x∈vnL l us:=by
   intro us;induction us with
   | nil=>intro _ _ l hl hS;exact ⟨hl,hS,λ_ h=>h,λx h=>by cases h⟩
   | cons u us ih2=>
    intro hu hV l hl hS;rw [zf] at hV;obtain ⟨q1,q2,q3,q4⟩:=ih u (hu u (by simp)) (zE ht u (hu u (by simp))) (λx hx=>hV x (List.mem_append_left _ hx)) l hl hS;obtain ⟨p1,p2,p3,p4⟩:=ih2 (λv hv=>hu v (by simp [hv])) (λx hx=>hV x (List.mem_append_right _ hx)) (vn l u) q1 q2;rw [vnL,zf];refine ⟨p1,p2,λx hx=>p3 x (q3 x hx),λx hx=> ?_⟩;rcases List.mem_append.1 hx with hx|hx
    ·exact p3 x (q4 x hx)
    ·exact p4 x hx
  exact key t.args (λ_ h=>h) hV l hl hS
abbrev Lt:=Bool × T
def fl (b:Bool):Nat:=if b then 1 else 0
def cmpL (a b:Lt):Int:=if zJ a.2 b.2≠0 then zJ a.2 b.2 else kA (fl a.1) (fl b.1)
theorem yi:Law3 cmpL:=jwe (f:=Prod.snd) (g:=λl:Lt=>fl l.1) jpu ZT λx y h1 h2=>by
 obtain ⟨p,t⟩:=x;obtain ⟨q,u⟩:=y;have h1:t=u:=h1;have h2:fl p=fl q:=h2;subst h1;cases p<;>cases q<;>first|rfl|(simp [fl] at h2)
abbrev jO:=List Lt
def jid:jO->Bool
 | a::b::l=>decide (cmpL a b < 0) && jid (b::l)
 | _=>true
theorem jie:∀c:jO,jid c=true↔Asc cmpL c
 | []=>by simp [jid,Asc]
 | [a]=>by simp [jid,Asc]
 | a::b::l=>by
  rw [jid,Bool.and_eq_true,decide_eq_true_eq,jie (b::l)];unfold Asc;constructor
  ·rintro ⟨h1,h2⟩;refine List.pairwise_cons.2 ⟨λx hx=> ?_,h2⟩;rcases List.mem_cons.1 hx with e|e
   ·rw [e];exact h1
   ·exact yi.trans a b x h1 ((List.pairwise_cons.1 h2).1 x e)
  ·intro h;exact ⟨(List.pairwise_cons.1 h).1 b (by simp),(List.pairwise_cons.1 h).2⟩
mutual
def Jn (l:List (List UInt8)):T->List (List UInt8)
 | .mk n us=>if jk n then vnA l n else Ye l us
def Ye (l:List (List UInt8)):List T->List (List UInt8)
 | []=>l
 | t::ts=>Ye (Jn l t) ts
end
theorem jhs (l:List (List UInt8)) (t:T):Jn l t=if jk t.name then vnA l t.name else Ye l t.args:=by cases t;rfl
def j8 (c:jO):List (List UInt8):=c.foldl (λl x=>Jn l x.2) []
def yP (p:UInt8) (i:Nat):List UInt8:=p::Lib.decDigits i
def qm (c:jO):Bool:=decide (j8 c=(List.range (j8 c).length).map (yP 88))
mutual
def kg (f:List UInt8->List UInt8):T->T
 | .mk n us=>if jk n then .mk (f n) [] else .mk n (Jp f us)
def Jp (f:List UInt8->List UInt8):List T->List T
 | []=>[]
 | t::ts=>kg f t::Jp f ts
end
theorem jjy (f:List UInt8->List UInt8):∀ts:List T,Jp f ts=ts.map (kg f)
 | []=>rfl
 | t::ts=>by rw [Jp,jjy f ts,List.map_cons]
theorem Kv (f:List UInt8->List UInt8) (t:T):kg f t=if jk t.name then .mk (f t.name) [] else .mk t.name (t.args.map (kg f)):=by
 cases t;rw [kg,jjy];rfl
def ku (p:UInt8) (l:List (List UInt8)) (n:List UInt8):List UInt8:=match l.findIdx? (λx=>decide (x=n)) with|some i=>yP p i|none=>n
def renC (p:UInt8) (c:jO):jO:=zo cmpL (c.map λl=>(l.1,kg (ku p (j8 c)) l.2))
def normF:Nat->jO->jO
 | 0,c=>c
 | k+1,c=>if qm c then c else normF k (renC 88 c)
def normC (c:jO):jO:=normF 10 c
theorem zB (t:T) (h:z6 t=true\/t.name = [61]):G 141 [tm t]=some (vb (jk t.name),[]):=by
 rcases h with h|h
 ·exact jp1 t h
 ·have e1:=Qz 61;have hx:kP (sv t.name) (vi 0)=some (vy ((61:UInt8).toNat:Int)):=by rw [h];exact zW
  have hv:jk t.name=upc 61:=by rw [h];decide
  rw [jxF,hv];simp only [jd,hx,e1]
theorem Zj (x y:List UInt8):kz x y=if zF x y then -1 else if zF y x then 1 else 0:=by
 have hf:=Jc.flip x y;cases h1:zF x y with
 | true=>unfold kz;rw [h1];rfl
 | false=>
  rw [if_neg Bool.false_ne_true];cases h2:zF y x with
  | true=>
   have:kz y x = -1:=by unfold kz;rw [h2,if_pos rfl]
   rw [if_pos rfl];omega
  | false=>
   rw [if_neg Bool.false_ne_true];have a1:kz x y=0\/kz x y=1:=by
    unfold kz;rw [h1,if_neg Bool.false_ne_true];split<;>simp
   have a2:kz y x=0\/kz y x=1:=by
    unfold kz;rw [h2,if_neg Bool.false_ne_true];split<;>simp
   omega
theorem jbl (b:Bool) (x y:List UInt8):jp .gtr b (sv x) (sv y)=some (vb (zF y x)):=by
 show some (vb (!(zF x y || decide (x=y))))=_;by_cases e:x=y
 ·subst e;rw [YW,decide_eq_true rfl];rfl
 have h1:=Zj x y;have h3:=Jc.flip x y;have h4:=Zj y x;rw [decide_eq_false e,Bool.or_false];cases a:zF x y<;>cases c:zF y x<;>rw [a,c] at h1 h4
 ·exact absurd ((Jc.zero x y).1 h1) e
 ·rfl
 ·rfl
 ·have h1:kz x y = -1:=h1;have h4:kz y x = -1:=h4;omega
theorem ZU (x y:List UInt8):G 134 [sv x,sv y]=some (vi (kz x y),[]):=by
 have n1:G 174 [sv x]=some (vb false,[]):=by rw [jxH];simp only [jd]
 have n2:G 174 [sv y]=some (vb false,[]):=by rw [jxH];simp only [jd]
 rw [jzu,Zj];cases h1:zF x y<;>cases h2:zF y x<;>simp only [jd,n1,n2,jbl,h1,h2]
theorem jbI (x y:Nat):G 117 [vi (x:Nat),vi (y:Nat)]=some (vi (kA x y),[]):=by
 have n1:G 162 [vi (x:Nat)]=some (vb false,[]):=by rw [jxG];simp only [jd]
 have n2:G 162 [vi (y:Nat)]=some (vb false,[]):=by rw [jxG];simp only [jd]
 rw [jzk];unfold kA;by_cases h1:x < y
 ·have h1':((x:Nat):Int) < ((y:Nat):Int):=by omega
  rw [if_pos h1];simp only [jd,n1,n2,h1']
 ·have h1':¬((x:Nat):Int) < ((y:Nat):Int):=by omega
  rw [if_neg h1];by_cases h2:y < x
  ·have h2':((y:Nat):Int) < ((x:Nat):Int):=by omega
   rw [if_pos h2];simp only [jd,n1,n2,h1',h2']
  ·have h2':¬((y:Nat):Int) < ((x:Nat):Int):=by omega
   rw [if_neg h2];simp only [jd,n1,n2,h1',h2']
theorem jq5 (a b:Int):G 115 [.sl 1 [[vi a],[vi b]]]=some (vi (if a≠0 then a else b),[]):=by
 have i0:jq 1 (.sl 1 [[vi a],[vi b]]) (vi 0)=some (.elt [vi a] 0):=rfl;have i1:jq 1 (.sl 1 [[vi a],[vi b]]) (vi 1)=some (.elt [vi b] 0):=rfl;have ll:zu (.sl 1 [[vi a],[vi b]])=some (vi 2):=rfl;have c0:jp .add false (vi 0) (vi 1)=some (vi 1):=by rw [JZ,jG (by decide) (by decide)];rfl
 have c1:jp .add false (vi 1) (vi 1)=some (vi 2):=by rw [JZ,jG (by decide) (by decide)];rfl
 have z0:(0:Int) < 2:=by decide
 have z1:(1:Int) < 2:=by decide
 have z2:¬(2:Int) < 2:=by decide
 generalize A.sl 1 [[vi a],[vi b]]=X at *;have k2:jcV (vi 0) X (vi 2) (vi 2)=some (vi 0,[]):=by rw [jk0];simp only [jd,z2]
 have k1:jcV (vi 0) X (vi 2) (vi 1)=some (vi b,[]):=by
  rw [jk0];by_cases hb:b=0
  ·simp only [jd,z1,i1,hb,c1,k2]
  ·simp only [jd,z1,i1,hb]
 rw [jzi];simp only [cev];rw [ll,Option.bind_some,jk0];by_cases ha:a=0
 ·rw [if_neg (λh=>h ha)];simp only [jd,z0,i0,ha,c0,k1]
 ·rw [if_pos ha];simp only [jd,z0,i0,ha]
end Go.Proofs.YtdbgbieenhcldaaGreatDoor
