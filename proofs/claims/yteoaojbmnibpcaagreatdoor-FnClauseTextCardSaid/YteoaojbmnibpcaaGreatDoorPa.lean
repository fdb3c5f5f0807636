/- Pa -/
import Derived.Test.YteoaojbmnibpcaaGreatDoorKt
import Derived.Test.YteoaojbmnibpcaaGreatDoorPq
import Derived.Test.YteoaojbmnibpcaaGreatDoorEd
import Derived.ChangeSame
import Derived.Sort.Walk0
import Derived.Lib.ItoaNum
namespace Go.Proofs.YteoaojbmnibpcaaGreatDoor
open Go Go.RowKit Go.Proofs.YteoaojbmnibpcaaGreatDoor.Abs
set_option linter.unusedSimpArgs false
set_option linter.unusedVariables false
abbrev ci(n:Int):Xd:=[vi n]
abbrev cs(s:Xb):Xd:=[sv s]
abbrev ints(l:Xi):A:= .sl 1 (l.map ci)
abbrev strs(l:Xa):A:= .sl 1 (l.map cs)
section
theorem jmm{α:Type}(x y:α):brn true x y=x:=rfl
theorem jkK{α:Type}(x y:α):brn false x y=y:=rfl
theorem joD{α:Type}(b:Bool)(x y:α):brn b x y=if b=true then x else y:=rfl
theorem jpt:(-1:Int)<0:=by decide
theorem jnz(b:Bool):zz (vb b)=some b:=rfl
theorem jnG(b:Bool)(x y:A):zO (vb b) x y=some (if b=true then x else y):=rfl
theorem jtx(b w:Bool)(x:Xl):pG (vb b) w x=if b=w then x else some (.val undef):=rfl
theorem jnL(b w:Bool):qu (vb b) w=some (decide (b=w)):=rfl
theorem jnC(w:Bool)(x:Xl):pG (.val undef) w x=some (.val undef):=rfl
theorem jg9(w:Bool):qu (.val undef) w=some false:=rfl
theorem jnD(k:Nat)(xs:Xc):K8 (.sl k xs)=some (vi xs.length):=rfl
theorem jpH(xs:Xc):JX xs=vi xs.length:=rfl
theorem jhg(xs:Xc):jD xs=xs.length:=rfl
theorem K9(l:Xb):KD (sv l)=some (vi l.length):=rfl
theorem jmI(a:A):fin false (a,[])=some a:=rfl
theorem jrD(b c:Bool):fin c (vb b,[])=some (vb b):=by cases c<;>rfl
theorem jrE(c:Bool)(n:Int):fin c (vi n,[])=some (vi n):=by cases c<;>rfl
theorem jpE(b:Bool):Yp .not (vb b)=some (vb (!b)):=rfl
theorem jnv(b:Bool)(x y:Int):jx .lss b (vi x) (vi y)=some (vb (decide (x<y))):=rfl
theorem jnu(b:Bool)(x y:Int):jx .leq b (vi x) (vi y)=some (vb (decide (x<=y))):=rfl
theorem jnt(b:Bool)(x y:Int):jx .gtr b (vi x) (vi y)=some (vb (decide (y<x))):=rfl
theorem jns(b:Bool)(x y:Int):jx .geq b (vi x) (vi y)=some (vb (decide (y<=x))):=rfl
theorem jnr(b:Bool)(x y:Int):jx .eql b (vi x) (vi y)=some (vb (decide (x=y))):=rfl
theorem jnx(b:Bool)(x y:Int):jx .neq b (vi x) (vi y)=some (vb (!decide (x=y))):=rfl
theorem jld(b:Bool)(x y:Int):jx .lss b (vy x) (vy y)=some (vb (decide (x<y))):=rfl
theorem jlc(b:Bool)(x y:Int):jx .leq b (vy x) (vy y)=some (vb (decide (x<=y))):=rfl
theorem jlb(b:Bool)(x y:Int):jx .gtr b (vy x) (vy y)=some (vb (decide (y<x))):=rfl
theorem jla(b:Bool)(x y:Int):jx .geq b (vy x) (vy y)=some (vb (decide (y<=x))):=rfl
theorem jk9(b:Bool)(x y:Int):jx .eql b (vy x) (vy y)=some (vb (decide (x=y))):=rfl
theorem jle(b:Bool)(x y:Int):jx .neq b (vy x) (vy y)=some (vb (!decide (x=y))):=rfl
theorem jlf(x y:Bool):jx .eql true (vb x) (vb y)=some (vb (decide (x=y))):=rfl
theorem jlg(x y:Bool):jx .neq true (vb x) (vb y)=some (vb (!decide (x=y))):=rfl
theorem Ja(b:Bool)(x y:Int):jx .add b (vi x) (vi y)=ck (x+y):=by cases b<;>rfl
theorem jny(b:Bool)(x y:Int):jx .sub b (vi x) (vi y)=ck (x-y):=by cases b<;>rfl
theorem jnw(b:Bool)(x y:Int):jx .mul b (vi x) (vi y)=ck (x*y):=by cases b<;>rfl
theorem ko{n:Int}(h1: -9223372036854775808<=n)(h2:n<=9223372036854775807):ck n=some (vi n):=if_pos ⟨h1,h2⟩
theorem QT(b:Bool)(x y:Xb):jx .add b (sv x) (sv y)=if x.length+y.length<=9223372036854775807 then some (sv (x++y))else none:=by cases b<;>rfl
theorem jlh(b:Bool)(x y:Xb):jx .eql b (sv x) (sv y)=some (vb (decide (x=y))):=rfl
theorem jlj(b:Bool)(x y:Xb):jx .neq b (sv x) (sv y)=some (vb (!decide (x=y))):=rfl
theorem jli(b:Bool)(x y:Xb):jx .lss b (sv x) (sv y)=some (vb (JD x y)):=rfl
theorem jnF(a:A)(l:Xd):Km (.elt (a::l) 0)=some a:=rfl
theorem jnp(cs:Xd)(off n:Nat):jaT (.elt cs off) n=some (.elt cs (off+n)):=rfl
theorem jiG(off:Nat)(cs:Xd):jcs off (.agg cs)=cs[off]? :=rfl
theorem jiE(n:Nat)(ds:Xd):jcr n (.agg ds)=if ds.length=n/\ds.all jO=true then some ds else none:=rfl
theorem jkM(a:A)(l:Xd):jb (a::l) 0=a:=rfl
theorem jms(a b:A)(l:Xd):jb (a::b::l) 1=b:=rfl
theorem jmt(a b c:A)(l:Xd):jb (a::b::c::l) 2=c:=rfl
theorem jh6(a b c d:A)(l:Xd):jb (a::b::c::d::l) 3=d:=rfl
theorem jrO(k:Nat)(xs:Xc):jO (.sl k xs)=true:=rfl
theorem jpw(cs:Xd)(o:Nat):jO (.elt cs o)=true:=rfl
theorem jrN(f:FuncId)(l:Xd):jO (.fn f l)=true:=rfl
theorem jrR(n:Int):jO (vi n)=true:=rfl
theorem jrQ(b:Bool):jO (vb b)=true:=rfl
theorem jrP(l:Xb):jO (sv l)=true:=rfl
theorem jrT(n:Nat)(i:Int):pIx n (vi i)=if 0<=i/\i<(n:Int)then some i.toNat else none:=rfl
theorem K7{n i:Nat}(h:i<n):pIx n (vi i)=some i:=by
 rw[jrT,if_pos ⟨by omega,by omega⟩];simp
theorem jnI(k:Nat)(xs:Xc):Js k (.sl k xs)=some xs:=if_pos rfl
theorem jrX(a:A)(l:Xd):jdo (.tup (a::l)) 0=some a:=rfl
theorem jrY(a b:A)(l:Xd):jdo (.tup (a::b::l)) 1=some b:=rfl
theorem jrZ(a b c:A)(l:Xd):jdo (.tup (a::b::c::l)) 2=some c:=rfl
theorem jpC(x y:Int):jiH (vi x) (vi y)=some (vi (if x<y then y else x)):=by
 unfold jiH;simp
theorem jpD(x y:Int):jll (vi x) (vi y)=some (vi (if y<x then y else x)):=by
 unfold jll;simp
theorem jta(a:A)(l:Xd)(i:Nat):hD (a,l) i=l[i]? :=rfl
theorem jvt(k:Nat)(a:A)(xs:Xc)(l:Xd):hR k (a,.sl k xs::l) 0=some xs:=by simp[hR]
theorem jvu(k:Nat)(a b:A)(xs:Xc)(l:Xd):hR k (a,b:: .sl k xs::l) 1=some xs:=by simp[hR]
theorem jvv(k:Nat)(a b c:A)(xs:Xc)(l:Xd):hR k (a,b::c:: .sl k xs::l) 2=some xs:=by simp[hR]
theorem YP{f:FuncId}{caps args:Xd}{c:Bool}(h:K.pureF f=true):DX.run K (MM K) (.callc (.fn f caps) args c)=(G f (args++caps)).bind (fin c):=by
 simp only[DX.run,h,if_true]
theorem jf{α:Type}{k:Nat}{f:α->Xd}{xs:List α}{i:Nat}(h:i<xs.length):js k (.sl k (xs.map f)) (vi i)=some (.elt (f xs[i]) 0):=by
 simp only[js,if_true,List.length_map,K7 h,Option.map_some];simp[List.getD_eq_getElem?_getD,h]
theorem j6{i n:Nat}(h:i<n)(hn:n<=9223372036854775807):jx .add false (vi i) (vi 1)=some (vi ((i+1:Nat):Int)):=by
 rw[Ja,ko (by omega) (by omega)];rfl
theorem jtv(d top:Nat)(z:Int):pB d top (some (vi z))=if 0<=z/\z<=(top:Int)then some z.toNat else none:=rfl
theorem jqM{d top n:Nat}(h:n<=top):pB d top (some (vi n))=some n:=by
 rw[jtv,if_pos ⟨by omega,by omega⟩];simp
theorem jiD{d top:Nat}(h:d<=top):pB d top none=some d:=if_pos h
theorem jpI(xs:Xc)(off:Nat):jfA xs off=xs.length-off:=rfl
theorem jkf(xs:Xc)(off n:Nat):jdp xs off n=(xs.drop off).take n:=rfl
theorem jj6(a b:Nat):Yk a b=a-b:=rfl
theorem upto{P:Nat->Prop}{n:Nat}(h0:P n)(hs:∀i,i<n->P (i+1)->P i):∀i,i<=n->P i:=by
 intro i hi;obtain⟨k,hk⟩:∃k,n=i+k:=⟨n-i,by omega⟩;induction k generalizing i with
 |zero=>rw[show i=n by omega];exact h0
 |succ k ih=>exact hs i (by omega) (ih (i+1) (by omega) (by omega))
theorem jL{α:Type}{xs:List α}{i:Nat}(h:i<xs.length):xs.drop i=xs[i]::xs.drop (i+1):=List.drop_eq_getElem_cons h
theorem evs :
  ((-1:Int)<0)/\
  (∀{α:Type}(x y:α),brn true x y=x)/\
  (∀{α:Type}(x y:α),brn false x y=y)/\
  (∀{α:Type}(b:Bool)(x y:α),brn b x y=if b=true then x else y)/\
  (∀{α β:Type}(a:α)(f:α->Option β),(some a).bind f=f a)/\
  (∀{α β:Type}(f:α->Option β),none.bind f=none)/\
  (∀(b:Bool),zz (vb b)=some b)/\
  (∀(b:Bool)(x y:A),zO (vb b) x y=some (if b=true then x else y))/\
  (∀(b w:Bool)(x:Xl),pG (vb b) w x=if b=w then x else some (A.val undef))/\
  (∀(b w:Bool),qu (vb b) w=some (decide (b=w)))/\
  (∀(w:Bool)(x:Xl),pG (A.val undef) w x=some (A.val undef))/\
  (∀(w:Bool),qu (A.val undef) w=some false)/\
  (∀(k:Nat)(xs:Xc),K8 (A.sl k xs)=some (vi ↑xs.length))/\
  (∀(xs:Xc),JX xs=vi ↑xs.length)/\
  (∀(xs:Xc),jD xs=xs.length)/\
  (∀(l:Xb),KD (sv l)=some (vi ↑l.length))/\
  (∀(a:A),fin false (a,[])=some a)/\
  (∀(b c:Bool),fin c (vb b,[])=some (vb b))/\
  (∀(c:Bool)(n:Int),fin c (vi n,[])=some (vi n))/\
  (∀(b:Bool),Yp UnOp.not (vb b)=some (vb !b))/\
  (∀(b:Bool)(x y:Int),jx BinOp.lss b (vi x) (vi y)=some (vb (decide (x<y))))/\
  (∀(b:Bool)(x y:Int),jx BinOp.leq b (vi x) (vi y)=some (vb (decide (x<=y))))/\
  (∀(b:Bool)(x y:Int),jx BinOp.gtr b (vi x) (vi y)=some (vb (decide (y<x))))/\
  (∀(b:Bool)(x y:Int),jx BinOp.geq b (vi x) (vi y)=some (vb (decide (y<=x))))/\
  (∀(b:Bool)(x y:Int),jx BinOp.eql b (vi x) (vi y)=some (vb (decide (x=y))))/\
  (∀(b:Bool)(x y:Int),jx BinOp.neq b (vi x) (vi y)=some (vb !decide (x=y)))/\
  (∀(b:Bool)(x y:Int),jx BinOp.lss b (vy x) (vy y)=some (vb (decide (x<y))))/\
  (∀(b:Bool)(x y:Int),jx BinOp.leq b (vy x) (vy y)=some (vb (decide (x<=y))))/\
  (∀(b:Bool)(x y:Int),jx BinOp.gtr b (vy x) (vy y)=some (vb (decide (y<x))))/\
  (∀(b:Bool)(x y:Int),jx BinOp.geq b (vy x) (vy y)=some (vb (decide (y<=x))))/\
  (∀(b:Bool)(x y:Int),jx BinOp.eql b (vy x) (vy y)=some (vb (decide (x=y))))/\
  (∀(b:Bool)(x y:Int),jx BinOp.neq b (vy x) (vy y)=some (vb !decide (x=y)))/\
  (∀(x y:Bool),jx BinOp.eql true (vb x) (vb y)=some (vb (decide (x=y))))/\
  (∀(x y:Bool),jx BinOp.neq true (vb x) (vb y)=some (vb !decide (x=y)))/\
  (∀(b:Bool)(x y:Int),jx BinOp.add b (vi x) (vi y)=ck (x+y))/\
  (∀(b:Bool)(x y:Int),jx BinOp.sub b (vi x) (vi y)=ck (x-y))/\
  (∀(b:Bool)(x y:Int),jx BinOp.mul b (vi x) (vi y)=ck (x*y))/\
  (∀(b:Bool)(x y:Xb),jx BinOp.eql b (sv x) (sv y)=some (vb (decide (x=y))))/\
  (∀(b:Bool)(x y:Xb),jx BinOp.neq b (sv x) (sv y)=some (vb !decide (x=y)))/\
  (∀(b:Bool)(x y:Xb),jx BinOp.lss b (sv x) (sv y)=some (vb (JD x y)))/\
  (∀(a:A)(l:Xd),Km (A.elt (a::l) 0)=some a)/\
  (∀(cs:Xd)(off n:Nat),jaT (A.elt cs off) n=some (A.elt cs (off+n)))/\
  (∀(off:Nat)(cs:Xd),jcs off (A.agg cs)=cs[off]?)/\
  (∀(n:Nat)(ds:Xd),jcr n (A.agg ds)=if ds.length=n/\ds.all jO=true then some ds else none)/\
  (∀(a:A)(l:Xd),jb (a::l) 0=a)/\
  (∀(a b:A)(l:Xd),jb (a::b::l) 1=b)/\
  (∀(a b c:A)(l:Xd),jb (a::b::c::l) 2=c)/\
  (∀(a b c d:A)(l:Xd),jb (a::b::c::d::l) 3=d)/\
  (∀(k:Nat)(xs:Xc),jO (A.sl k xs)=true)/\
  (∀(cs:Xd)(o:Nat),jO (A.elt cs o)=true)/\
  (∀(f:FuncId)(l:Xd),jO (A.fn f l)=true)/\
  (∀(n:Int),jO (vi n)=true)/\
  (∀(b:Bool),jO (vb b)=true)/\
  (∀(l:Xb),jO (sv l)=true)/\
  (∀(k:Nat)(xs:Xc),Js k (A.sl k xs)=some xs)/\
  (∀(a:A)(l:Xd),jdo (A.tup (a::l)) 0=some a)/\
  (∀(a b:A)(l:Xd),jdo (A.tup (a::b::l)) 1=some b)/\
  (∀(a b c:A)(l:Xd),jdo (A.tup (a::b::c::l)) 2=some c)/\
  (∀(x y:Int),jiH (vi x) (vi y)=some (vi (if x<y then y else x)))/\
  (∀(x y:Int),jll (vi x) (vi y)=some (vi (if y<x then y else x)))/\
  (∀(a:A)(l:Xd)(i:Nat),hD (a,l) i=l[i]?)/\
  (∀(k:Nat)(a:A)(xs:Xc)(l:Xd),hR k (a,A.sl k xs::l) 0=some xs)/\
  (∀(k:Nat)(a b:A)(xs:Xc)(l:Xd),hR k (a,b::A.sl k xs::l) 1=some xs)/\
  (∀(k:Nat)(a b c:A)(xs:Xc)(l:Xd),hR k (a,b::c::A.sl k xs::l) 2=some xs)/\
  (∀{α:Type}{a:α}{l:List α}{f:α->Bool},(a::l).all f=(f a && l.all f))/\
  (∀{α:Type}{f:α->Bool},([]:List α).all f=true)/\
  (∀{α:Type}{a:α}{l:List α},(a::l).length=l.length+1)/\
  (∀{α:Type},([]:List α).length=0)/\
  (∀{α β:Type}{l:List α}(f:α->β),(List.map f l).length=l.length)/\
  (∀(n:Nat),0+n=n)/\
  (∀(b:Bool),(b && b)=b)/\
  (∀(b:Bool),(b && true)=b)/\
  (∀(p:Prop),(p/\p)=p)/\
  (∀{α:Type}{_x:Decidable True}(t e:α),(if True then t else e)=t)/\
  (∀{α:Type}{_x:Decidable False}(t e:α),(if False then t else e)=e)/\
  ((true=false)=False)/\
  ((false=true)=False)/\
  (∀(_h:Decidable True),decide True=true)/\
  (∀(_h:Decidable False),decide False=false)/\
  ((!true)=false)/\
  ((!false)=true)/\
  (∀(b:Bool),((!b)=true)=(b=false))/\
  (∀{p:Prop} [Decidable p],(decide p=true)=p)/\
  (∀{p:Prop}{x:Decidable p},decide p=false↔ ¬p)/\
  (∀(a:Int),¬a<a)/\
  ((¬True)=False)/\
  ((¬False)=True)/\
  (∀{α:Type}(a b:α),(if True then a else b)=a)/\
  (∀{α:Type}(a b:α),(if False then a else b)=b):=
 ⟨@jpt,@jmm,@jkK,@joD,@Option.bind_some.{0,0},@Option.bind_none.{0,0},@jnz,@jnG,@jtx,@jnL,@jnC,@jg9,@jnD,@jpH,@jhg,@K9,@jmI,@jrD,@jrE,@jpE,@jnv,@jnu,@jnt,@jns,@jnr,@jnx,@jld,@jlc,@jlb,@jla,@jk9,@jle,@jlf,@jlg,@Ja,@jny,@jnw,@jlh,@jlj,@jli,@jnF,@jnp,@jiG,@jiE,@jkM,@jms,@jmt,@jh6,@jrO,@jpw,@jrN,@jrR,@jrQ,@jrP,@jnI,@jrX,@jrY,@jrZ,@jpC,@jpD,@jta,@jvt,@jvu,@jvv,@List.all_cons.{0},@List.all_nil.{0},@List.length_cons.{0},@List.length_nil.{0},@List.length_map.{0,0},@Nat.zero_add,@Bool.and_self,@Bool.and_true,@and_self,@if_true.{1},@if_false.{1},@Bool.true_eq_false,@Bool.false_eq_true,@decide_true,@decide_false,@Bool.not_true,@Bool.not_false,@Bool.not_eq_true',@decide_eq_true_eq,@decide_eq_false_iff_not,@Int.lt_irrefl,@not_true_eq_false,@not_false_eq_true,@ite_true.{1},@ite_false.{1}⟩
end
theorem js5:(∀{α:Type}{h:Decidable True}(a b:α),@ite α True h a b=a)/\(∀{α:Type}{h:Decidable False}(a b:α),@ite α False h a b=b)/\(1+1=2/\1+2=3/\1+3=4/\1+4=5/\2+1=3/\2+2=4/\2+3=5/\2+4=6/\3+1=4/\3+2=5/\3+3=6/\3+4=7/\4+1=5/\4+2=6/\4+3=7/\4+4=8/\5+1=6/\5+2=7/\5+3=8/\5+4=9/\6+1=7/\6+2=8/\6+3=9/\6+4=10/\7+1=8/\7+2=9/\7+3=10/\7+4=11/\8+1=9/\8+2=10/\8+3=11/\8+4=12/\9+1=10/\9+2=11/\9+3=12/\9+4=13/\10+1=11/\10+2=12/\10+3=13/\10+4=14/\11+1=12/\11+2=13/\11+3=14/\11+4=15/\12+1=13/\12+2=14/\12+3=15/\12+4=16):=by refine⟨?_,?_,by decide⟩<;>intros<;>simp
theorem jk:type_of% (And.intro evs (And.intro cev js5)):=And.intro evs (And.intro cev js5)
open Go Go.RowKit Go.ChangeShapes Go.Deep Go.Proofs.YteoaojbmnibpcaaGreatDoor.Abs
section
variable{P:Program}{t:Nat}{H:Type}{enc:TypeId×Value->H}{w:World}{base:Nat}{spare:Nat->Bool}{held:Bool}{fuel:Nat}{cs:Xh}{x:DataW H×List MemPlace}
end
inductive T where
 |mk (name:Xb) (args:List T)
abbrev Xg:=List T
def T.name:T->Xb|.mk n _=>n
def T.args:T->Xg|.mk _ us=>us
mutual
def jl:T->Xd
 |.mk n us=>[sv n,.sl 2 (jbf us)]
def jbf:Xg->Xc
 | []=>[]
 |t::ts=>jl t::jbf ts
end
theorem jaB:∀ts:Xg,jbf ts=ts.map jl
 | []=>rfl
 |t::ts=>by simp[jbf,jaB ts]
theorem jI(t:T):jl t=[sv t.name,.sl 2 (t.args.map jl)]:=by
 cases t;simp[jl,T.name,T.args,jaB]
abbrev tm(t:T):A:= .agg [sv t.name,.sl 2 (t.args.map jl)]
abbrev zR(ts:Xg):A:= .sl 2 (ts.map jl)
theorem jp(t:T):kR 2 (.elt (jl t) 0)=some (.agg [sv t.name,.sl 2 (t.args.map jl)]):=by rw[jI];rfl
mutual
def tsz:T->Nat
 |.mk n us=>n.length+us.length+kM us
def kM:Xg->Nat
 | []=>0
 |t::ts=>tsz t+kM ts
end
theorem kU(t:T):tsz t=t.name.length+t.args.length+kM t.args:=by cases t;simp[tsz,T.name,T.args]
theorem yw:∀{ts:Xg}{t:T},t∈ts->tsz t<=kM ts
 | [],_,h=>by cases h
 |u::us,t,h=>by
  simp only[kM];rcases List.mem_cons.1 h with rfl|h
  .omega
  .have:=yw h;omega
mutual
def twf:T->Prop
 |.mk n us=>n.length<=9223372036854775807/\us.length<=9223372036854775807/\jlX us
def jlX:Xg->Prop
 | []=>True
 |t::ts=>twf t/\jlX ts
end
theorem yg(t:T):twf t↔t.name.length<=9223372036854775807/\t.args.length<=9223372036854775807/\jlX t.args:=by cases t;simp[twf,T.name,T.args]
theorem zv:∀ts:Xg,jlX ts↔ ∀t∈ts,twf t
 | []=>by simp[jlX]
 |t::ts=>by simp[jlX,zv ts]
theorem T.ind{p:T->Prop}(h:∀t,(∀u∈t.args,p u)->p t):∀t,p t:=by
 intro t;induction hn:SizeOf.sizeOf t using Nat.strongRecOn generalizing t with
 |ind n ih=>
  subst hn;refine h t λu hu=>ih (SizeOf.sizeOf u) ?_ u rfl;cases t with
  |mk nm us=>
   have:=List.sizeOf_lt_of_mem hu;simp only[T.args]at this;simp only[T.mk.sizeOf_spec];omega
section
variable{P:Program}{tT tS:Nat}
end
structure Ord' where
 syms:Xa
 ws:Xi
 var:Int
abbrev jvC(o:Ord'):Xd:=[strs o.syms,ints o.ws,vi o.var]
abbrev od(o:Ord'):A:= .agg [strs o.syms,ints o.ws,vi o.var]
def owf(o:Ord'):Prop:=((∀s∈o.syms,s.length<=9223372036854775807)/\o.syms.length<=9223372036854775807)/\((∀x∈o.ws,I64 x)/\o.ws.length<=9223372036854775807)/\I64 o.var
set_option maxHeartbeats 1000000
def jwc(left n:Int):Int:=if 0<=left-n then left-n else -1
def part{α:Type}(f:α->Xd)(z:Xd)(xs:List α)(i:Nat):Xc:=(xs.take i).map f++List.replicate (xs.length-i) z
section
variable{α:Type}{f:α->Xd}{z:Xd}{xs:List α}
end
theorem jjB(a b c d:A):qp [a,b] 0 [c,d]=[c,d]:=rfl
def jvx(k:Int):Nat->Xi
 |0=>[]
 |n+1=>k::jvx (k+1) n
section
variable{α:Type}{f:α->Xd}(M r:List α)(x:α)
end
section
variable(M R:Xc)(x y:Xd)
end
def jn8:Xa->Nat
 | []=>0
 |s::l=>s.length+jn8 l
def osz(o:Ord'):Nat:=o.syms.length+jn8 o.syms+o.ws.length
theorem yJ{l:Xb}{i:Nat}(h:i<l.length):jT (sv l) (vi i)=some (vy (l[i].toNat:Int)):=by
 show(if _ then _ else _)=_;rw[if_pos ⟨by omega,by simpa using h⟩];simp[List.getD_eq_getElem?_getD,h]
theorem zh{c:UInt8}{l:Xb} :jT (sv (c::l)) (vi 0)=some (vy (c.toNat:Int)):=yJ (i:=0) (l:=c::l) (by simp)
def KB(lo hi x:Int):Bool:=decide (lo<=x) && decide (x<=hi)
theorem ZN(x a b:Int):G 69 [vi x,vi a,vi b]=some (vb (KB a b x),[]):=by
 rw[g69];by_cases h:a<=x<;>simp only[jk,h,KB,Bool.true_and,Bool.false_and]
theorem ja5(x a b:Int):G 64 [vi x,vi a,vi b]=some (vb (KB a b x),[]):=by
 rw[g64];by_cases h:a<=x<;>simp only[jk,h,KB,Bool.true_and,Bool.false_and]
def upc(c:UInt8):Bool:=KB 65 90 (c.toNat:Int)
def ZR(c:UInt8):Bool:=KB 97 122 (c.toNat:Int)
def jic(c:UInt8):Bool:=KB 48 57 (c.toNat:Int)
def kV(c:UInt8):Bool:=ZR c || jic c
theorem qY(c:UInt8):G 158 [vy (c.toNat:Int)]=some (vb (upc c),[]):=by
 rw[jvl];by_cases h:65<=(c.toNat:Int)<;>simp only[jk,h,upc,KB,Bool.true_and,Bool.false_and]
theorem qX(c:UInt8):G 154 [vy (c.toNat:Int)]=some (vb (ZR c),[]):=by
 rw[jvh];by_cases h:97<=(c.toNat:Int)<;>simp only[jk,h,ZR,KB,Bool.true_and,Bool.false_and]
theorem Kg(c:UInt8):G 155 [vy (c.toNat:Int)]=some (vb (jic c),[]):=by
 rw[jvi];by_cases h:48<=(c.toNat:Int)<;>simp only[jk,h,jic,KB,Bool.true_and,Bool.false_and]
theorem Yf(c:UInt8):G 137 [vy (c.toNat:Int)]=some (vb (kV c),[]):=by
 rw[ju9];by_cases h:97<=(c.toNat:Int)<;>by_cases h2:(c.toNat:Int)<=122<;>by_cases h3:48<=(c.toNat:Int)<;>simp only[jk,h,h2,h3,kV,ZR,jic,KB,Bool.true_and,Bool.false_and,Bool.or_false,Bool.true_or,Bool.false_or]
def jE:Xb->Bool
 | []=>false
 |c::r=>upc c && (r.all kV && decide (r.length<=3))
theorem ja2(r:Xb)(k:Nat)(hk:k<=9):KB 1 (k+1:Nat) (((r.length+1:Nat)):Int)=decide (r.length<=k):=by
 unfold KB;have:decide ((1:Int)<=((r.length+1:Nat):Int))=true:=by simp;omega
 rw[this,Bool.true_and];by_cases h:r.length<=k<;>simp[h]<;>omega
theorem jaP(s:Xb)(hs:s.length<=9223372036854775807):∀i,i<=s.length->1<=i->jbm (sv s) (vi (s.length:Nat)) (vi i)=some (vb ((s.drop i).all kV && KB 1 4 (s.length:Nat)),[]):=by
 refine upto (P:=λi=>1<=i->jbm (sv s) (vi (s.length:Nat)) (vi i)=some (vb ((s.drop i).all kV && KB 1 4 (s.length:Nat)),[])) ?_ ?_
 .intro _;rw[jfe,List.drop_length];have e:=ZN (s.length:Nat) 1 4;simp only[jk,e,Bool.true_and]
 .intro i hi ih h1;have ih:=ih (by omega);have hn:¬((i:Int)=0):=by omega
  have hp:(0:Int)<(i:Int):=by omega
  have hlt:(i:Int)<((s.length:Nat):Int):=by omega
  have h5:=j6 hi hs;have hx:=yJ hi;have e1:=qX s[i];have e2:=Kg s[i];rw[jfe,jL hi];generalize s[i]=ch at *;rw[List.all_cons];cases h8:ZR ch<;>cases h9:jic ch<;>rw[h8]at e1<;>rw[h9]at e2<;>simp only[jk,hn,hp,hlt,hx,e1,e2,h5,ih,kV,h8,h9,Bool.true_and,Bool.false_and,Bool.or_true,Bool.or_false]
theorem jdk(s:Xb)(hs:s.length<=9223372036854775807):G 151 [sv s]=some (vb (jE s),[]):=by
 rw[jve];show(KD (sv s)).bind _=_;rw[K9,Option.bind_some];cases s with
 |nil=>
  rw[jfe];have e:=ZN ((0:Nat):Int) 1 4;simp only[jk,e];rfl
 |cons c r=>
  have key:=jaP (c::r) hs 1 (by simp) (Nat.le_refl _);simp only[List.drop_succ_cons,List.drop_zero]at key;have e':KB 1 4 (((c::r).length:Nat):Int)=decide (r.length<=3):=ja2 r 3 (by decide);rw[e']at key;rw[jfe];have h5:jx .add false (vi 0) (vi 1)=some (vi ((1:Nat):Int)):=by rw[Ja,ko (by decide) (by decide)];rfl
  have h6:(0:Int)<(((c::r).length:Nat):Int):=Int.natCast_pos.2 (Nat.succ_pos _);have e1:=qY c;generalize ((((c::r).length:Nat)):Int)=n at *;cases hu:upc c<;>rw[hu]at e1<;>simp only[jk,h6,zh,e1,h5,key,jE,hu,Bool.true_and,Bool.false_and]
theorem jir(s:Xb)(hs:s.length<=9223372036854775807):∀i,i<=s.length->QA (sv s) (vi i)=some (vb ((s.drop i).all kV),[]):=by
 refine upto (P:=λi=>QA (sv s) (vi i)=some (vb ((s.drop i).all kV),[])) ?_ ?_
 .rw [jm0,List.drop_length];simp only[jk]
 .intro i hi ih;have hlt:(i:Int)<((s.length:Nat):Int):=by omega
  have h5:=j6 hi hs;have hx:=yJ hi;have e1:=Yf s[i];rw[jm0,jL hi];generalize s[i]=ch at *;rw[List.all_cons];cases h8:kV ch<;>rw[h8]at e1<;>simp only[jk,hlt,hx,e1,h5,ih,Bool.true_and,Bool.false_and]
theorem jb9(s:Xb)(hs:s.length<=9223372036854775807):G 136 [sv s]=some (vb (jE s),[]):=by
 rw[ju8];show(KD (sv s)).bind _=_;rw[K9,Option.bind_some];cases s with
 |nil=>
  have e:=ja5 ((0:Nat):Int) 1 4;simp only[jk,e];rfl
 |cons c r=>
  have e:=ja5 (((c::r).length:Nat):Int) 1 4;have e':KB 1 4 (((c::r).length:Nat):Int)=decide (r.length<=3):=ja2 r 3 (by decide);rw[e']at e;have key:=jir (c::r) hs 1 (by simp);simp only[List.drop_succ_cons,List.drop_zero]at key;have key:QA (sv (c::r)) (vi 1)=some (vb (r.all kV),[]):=key;generalize ((((c::r).length:Nat)):Int)=n at *;by_cases h3:r.length<=3
  .rw [decide_eq_true h3]at e;by_cases ha:(c.toNat:Int)<65
   .have:¬(65<=(c.toNat:Int)):=by omega
    simp only[jk,e,zh,ha,jE,upc,KB,this,Bool.false_and]
   .have h65:65<=(c.toNat:Int):=by omega
    by_cases hb:90<(c.toNat:Int)
    .have:¬((c.toNat:Int)<=90):=by omega
     simp only[jk,e,zh,ha,hb,jE,upc,KB,this,Bool.false_and,Bool.and_false]
    .have:(c.toNat:Int)<=90:=by omega
     simp only[jk,e,zh,ha,hb,jE,upc,KB,this,h65,key,h3,Bool.true_and]
  .rw [decide_eq_false h3]at e;simp only[jk,e,jE,h3,Bool.and_false]
def Z8(s:Xb):Xa->Option Nat
 | []=>none
 |x::l=>if s=x then some 0 else(Z8 s l).map (· + 1)
def ZW(i:Nat):Option Nat->Int
 |none=> -1
 |some k=>((i+k:Nat):Int)
theorem jaj(s:Xb):∀l,(Z8 s l).isSome=l.contains s
 | []=>rfl
 |x::l=>by
  simp only[Z8,List.contains_cons];by_cases h:s=x
  .simp [h]
  .have:=jaj s l;simp[h,this]
theorem je2(s:Xb)(l:Xa):decide (0<=ZW 0 (Z8 s l))=l.contains s:=by
 rw[<-jaj];cases Z8 s l<;>simp[ZW]
theorem jig{s x:Xb}{l:Xa}{i:Nat}(h:¬s=x):ZW (i+1) (Z8 s l)=ZW i (Z8 s (x::l)):=by
 simp only[Z8,h,if_false];cases Z8 s l<;>simp[ZW];omega
theorem jik(l:Xa)(s:Xb)(hl:l.length<=9223372036854775807):G 36 [strs l,sv s]=some (vi (ZW 0 (Z8 s l)),[]):=by
 have key:=upto (P:=λi=>jjs (strs l) (sv s) (vi (l.length:Nat)) (vi i)=some (vi (ZW i (Z8 s (l.drop i))),[])) (n:=l.length) ?_ ?_ 0 (Nat.zero_le _)
 .simp only[Int.natCast_zero,List.drop_zero]at key;rw[g36];simp only[jk,key]
 .rw [jqA,List.drop_length];simp only[jk,Z8,ZW]
 .intro i hi ih;have hlt:(i:Int)<((l.length:Nat):Int):=by omega
  have h5:=j6 hi hl;rw[jqA,jL hi];by_cases h:s=l[i]
  .simp only[jk,hlt,jf hi,h,Z8,ZW,Nat.add_zero]
  .simp only[jk,hlt,jf hi,h,h5,ih,jig h]
theorem jdg(l:Xa)(s:Xb)(hl:l.length<=9223372036854775807):G 156 [strs l,sv s]=some (vb (l.contains s),[]):=by
 have e:=jik l s hl;rw[jvj];simp only[jk,e,je2]
def jhq:Xa:=[[116,114,117,101],[102,97,108,115,101],[116,114,117,116,104],[98,111,116,104],[101,105,116,104,101,114],[105,102],[97,108,108],[115,111,109,101]]
def jc0(c:UInt8):Bool:=kV c || decide ((c.toNat:Int)=95)
def zW:Xb->Bool
 | []=>false
 |c::r=>ZR c && (r.all jc0 && (decide (r.length<=5) && !jhq.contains (c::r)))
theorem joA(a b:Xb):(a == b)=decide (a=b):=by by_cases h:a=b<;>simp[h]
theorem jdj(s:Xb)(hs:s.length<=9223372036854775807):∀i,i<=s.length->1<=i->jbl (sv s) (vi (s.length:Nat)) (vi i)=some (vb ((s.drop i).all jc0 && (KB 1 6 (s.length:Nat) && !jhq.contains s)),[]):=by
 refine upto (P:=λi=>1<=i->jbl (sv s) (vi (s.length:Nat)) (vi i)=some (vb ((s.drop i).all jc0 && (KB 1 6 (s.length:Nat) && !jhq.contains s)),[])) ?_ ?_
 .intro _;rw[jfd,List.drop_length];have e:=ZN (s.length:Nat) 1 6;have e2:=jdg jhq s (by decide);have e3:G 157 []=some (strs jhq,[]):=jvk;cases h:KB 1 6 (s.length:Nat)<;>rw[h]at e<;>simp only[jk,e,e2,e3,Bool.true_and,Bool.false_and]
 .intro i hi ih h1;have ih:=ih (by omega);have hn:¬((i:Int)=0):=by omega
  have hlt:(i:Int)<((s.length:Nat):Int):=by omega
  have h5:=j6 hi hs;have hx:=yJ hi;have e1:=qX s[i];have e2:=Kg s[i];rw[jfd,jL hi];generalize s[i]=ch at *;rw[List.all_cons];cases h7:decide ((ch.toNat:Int)=95)<;>cases h8:ZR ch<;>cases h9:jic ch<;>rw[h8]at e1<;>rw[h9]at e2<;>
   simp only[jk,hn,hlt,hx,e1,e2,h5,ih,jc0,kV,h7,h8,h9,Bool.true_and,Bool.false_and,Bool.or_true,Bool.or_false]
theorem jal(s:Xb)(hs:s.length<=9223372036854775807):G 120 [sv s]=some (vb (zW s),[]):=by
 rw[ju2];show(KD (sv s)).bind _=_;rw[K9,Option.bind_some];cases s with
 |nil=>
  rw[jfd];have e:G 69 [vi ((0:Nat):Int),vi 1,vi 6]=some (vb false,[]):=ZN ((0:Nat):Int) 1 6;simp only[jk,e];rfl
 |cons c r=>
  have key:=jdj (c::r) hs 1 (by simp) (Nat.le_refl _);simp only[List.drop_succ_cons,List.drop_zero]at key;have e':KB 1 6 (((c::r).length:Nat):Int)=decide (r.length<=5):=ja2 r 5 (by decide);rw[e']at key;rw[jfd];have h5:jx .add false (vi 0) (vi 1)=some (vi ((1:Nat):Int)):=by rw[Ja,ko (by decide) (by decide)];rfl
  have h6:(0:Int)<(((c::r).length:Nat):Int):=Int.natCast_pos.2 (Nat.succ_pos _);have e1:=qX c;generalize ((((c::r).length:Nat)):Int)=n at *;cases hu:ZR c<;>rw[hu]at e1<;>simp only[jk,h6,zh,e1,h5,key,zW,hu,Bool.true_and,Bool.false_and]
theorem jdl(s:Xb)(hs:s.length<=9223372036854775807):∀i,i<=s.length->JH (sv s) (vi i)=some (vb ((s.drop i).all jc0),[]):=by
 refine upto (P:=λi=>JH (sv s) (vi i)=some (vb ((s.drop i).all jc0),[])) ?_ ?_
 .rw [jqD,List.drop_length];simp only[jk]
 .intro i hi ih;have hlt:(i:Int)<((s.length:Nat):Int):=by omega
  have h5:=j6 hi hs;have hx:=yJ hi;have e1:=Yf s[i];rw[jqD,jL hi];generalize s[i]=ch at *;rw[List.all_cons];cases h7:decide ((ch.toNat:Int)=95)<;>cases h8:kV ch<;>rw[h8]at e1<;>simp only[jk,hlt,hx,e1,h5,ih,jc0,h7,h8,Bool.true_and,Bool.false_and,Bool.or_true,Bool.or_false]
theorem jao(s:Xb)(hs:s.length<=9223372036854775807):G 96 [sv s]=some (vb (zW s),[]):=by
 rw[g96];show(KD (sv s)).bind _=_;rw[K9,Option.bind_some];cases s with
 |nil=>
  have e:G 64 [vi ((0:Nat):Int),vi 1,vi 6]=some (vb false,[]):=ja5 ((0:Nat):Int) 1 6;simp only[jk,e];rfl
 |cons c r=>
  have e:=ja5 (((c::r).length:Nat):Int) 1 6;have e':KB 1 6 (((c::r).length:Nat):Int)=decide (r.length<=5):=ja2 r 5 (by decide);rw[e']at e;have key:=jdl (c::r) hs 1 (by simp);simp only[List.drop_succ_cons,List.drop_zero]at key;have key:JH (sv (c::r)) (vi 1)=some (vb (r.all jc0),[]):=key;generalize ((((c::r).length:Nat)):Int)=n at *;have hres:jhq.contains (c::r)=(decide (c::r=[116,114,117,101]) || (decide (c::r=[102,97,108,115,101]) || (decide (c::r=[116,114,117,116,104]) || (decide (c::r=[98,111,116,104]) || (decide (c::r=[101,105,116,104,101,114]) || (decide (c::r=[105,102]) || (decide (c::r=[97,108,108]) || decide (c::r=[115,111,109,101])))))))):=by
   simp only[jhq,List.contains_cons,List.contains_nil,Bool.or_false,joA]
  by_cases h3:r.length<=5
  .rw [decide_eq_true h3]at e;by_cases ha:(c.toNat:Int)<97
   .have:¬(97<=(c.toNat:Int)):=by omega
    simp only[jk,e,zh,ha,zW,ZR,KB,this,Bool.false_and]
   .have h65:97<=(c.toNat:Int):=by omega
    by_cases hb:122<(c.toNat:Int)
    .have:¬((c.toNat:Int)<=122):=by omega
     simp only[jk,e,zh,ha,hb,zW,ZR,KB,this,Bool.false_and,Bool.and_false]
    .have h122:(c.toNat:Int)<=122:=by omega
     have e0:zW (c::r)=(r.all jc0 && !jhq.contains (c::r)):=by
      simp[zW,ZR,KB,h65,h122,h3]
     rw[e0,hres];have hx0:=zh (c:=c) (l:=r);clear hres e0;generalize c::r=s at *;cases q0:decide (s=[116,114,117,101]);rotate_left
     .simp only[jk,e,hx0,ha,hb,q0,Bool.true_or,Bool.and_false]
     cases q1:decide (s=[102,97,108,115,101]);rotate_left
     .simp only[jk,e,hx0,ha,hb,q0,q1,Bool.true_or,Bool.false_or,Bool.and_false]
     cases q2:decide (s=[116,114,117,116,104]);rotate_left
     .simp only[jk,e,hx0,ha,hb,q0,q1,q2,Bool.true_or,Bool.false_or,Bool.and_false]
     cases q3:decide (s=[98,111,116,104]);rotate_left
     .simp only[jk,e,hx0,ha,hb,q0,q1,q2,q3,Bool.true_or,Bool.false_or,Bool.and_false]
     cases q4:decide (s=[101,105,116,104,101,114]);rotate_left
     .simp only[jk,e,hx0,ha,hb,q0,q1,q2,q3,q4,Bool.true_or,Bool.false_or,Bool.and_false]
     cases q5:decide (s=[105,102]);rotate_left
     .simp only[jk,e,hx0,ha,hb,q0,q1,q2,q3,q4,q5,Bool.true_or,Bool.false_or,Bool.and_false]
     cases q6:decide (s=[97,108,108]);rotate_left
     .simp only[jk,e,hx0,ha,hb,q0,q1,q2,q3,q4,q5,q6,Bool.true_or,Bool.false_or,Bool.and_false]
     cases q7:decide (s=[115,111,109,101]);rotate_left
     .simp only[jk,e,hx0,ha,hb,q0,q1,q2,q3,q4,q5,q6,q7,Bool.false_or,Bool.and_false]
     simp only[jk,e,hx0,ha,hb,q0,q1,q2,q3,q4,q5,q6,q7,Bool.or_false,key]
  .rw [decide_eq_false h3]at e;simp only[jk,e,zW,h3,Bool.false_and,Bool.and_false]
mutual
def nodes:T->Nat
 |.mk _ us=>1+jA us
def jA:Xg->Nat
 | []=>0
 |t::ts=>nodes t+jA ts
end
theorem jM(t:T):nodes t=1+jA t.args:=by cases t;rfl
mutual
def qx:T->Nat
 |.mk _ us=>1+ZQ us
def ZQ:Xg->Nat
 | []=>0
 |t::ts=>max (qx t) (ZQ ts)
end
theorem jbD(t:T):qx t=1+ZQ t.args:=by cases t;rfl
mutual
def zy:T->Bool
 |.mk n us=>if jE n then us.isEmpty else zW n && (decide (us.length<=4) && QS us)
def QS:Xg->Bool
 | []=>true
 |t::ts=>zy t && QS ts
end
theorem zF(t:T):zy t=if jE t.name then t.args.isEmpty else zW t.name && (decide (t.args.length<=4) && QS t.args):=by cases t;rfl
theorem yq:∀ts,QS ts=ts.all zy
 | []=>rfl
 |t::ts=>by rw[QS,yq ts,List.all_cons]
theorem Qa:∀t:T,nodes t<=1+tsz t:=by
 refine T.ind λt ih=>?_;have:∀ts:Xg,(∀u∈ts,nodes u<=1+tsz u)->jA ts<=ts.length+kM ts:=by
  intro ts;induction ts with
  |nil=>intro _;simp[jA]
  |cons u us ih=>
   intro h;have h1:=h u (by simp);have h2:=ih λv hv=>h v (by simp[hv]);simp only[jA,kM,List.length_cons];omega
 have h:=this t.args ih;rw[jM,kU];omega
theorem ZF(t:T):1<=nodes t:=by rw[jM];omega
theorem Ym{ts:Xg}{t:T}(h:t∈ts):nodes t<=jA ts:=by
 induction ts with
 |nil=>cases h
 |cons u us ih=>
  simp only[jA];rcases List.mem_cons.1 h with rfl|h
  .omega
  .have:=ih h;omega
theorem jia:∀t:T,qx t<=nodes t:=by
 refine T.ind λt ih=>?_;have:∀ts:Xg,(∀u∈ts,qx u<=nodes u)->ZQ ts<=jA ts:=by
  intro ts;induction ts with
  |nil=>intro _;simp[ZQ]
  |cons u us ih=>
   intro h;have h1:=h u (by simp);have h2:=ih λv hv=>h v (by simp[hv]);simp only[jA,ZQ];omega
 have h:=this t.args ih;rw[jM,jbD];omega
theorem jlG(ts:Xg)(hl:ts.length<=9223372036854775807)(hn:jA ts<=1048577)(ih:∀t∈ts,∃r:Nat,G 149 [tm t]=some (vi r,[])/\r<=nodes t/\(nodes t<=30->r=nodes t)/\(30<nodes t->30<r)) :
  ∀i,i<=ts.length-> ∀a:Nat,a+jA (ts.drop i)<=1048578-> ∃r:Nat,jeK (vi a) (zR ts) (vi (ts.length:Nat)) (vi i)=some (vi r,[])/\r<=a+jA (ts.drop i)/\(a+jA (ts.drop i)<=30->r=a+jA (ts.drop i))/\(30<a+jA (ts.drop i)->30<r):=by
 refine upto ?_ ?_
 .intro a ha;rw[jio,List.drop_length];simp only[jk,jA,Nat.add_zero];exact⟨a,rfl,Nat.le_refl _,λ_=>rfl,λh=>h⟩
 .intro i hi ih' a ha;have hlt:(i:Int)<((ts.length:Nat):Int):=by omega
  have h5:=j6 hi hl;rw[jL hi]at ha⊢;simp only[jA]at ha⊢;obtain⟨r1,e1,b1,b2,b3⟩:=ih ts[i] (List.getElem_mem _);by_cases hc:(30:Int)<(a:Int)
  .refine ⟨a,?_,by omega,by omega,by omega⟩;rw[jio];simp only[jk,hlt,jf hi,jp,hc]
  .have hk:ck ((a:Int)+(r1:Int))=some (vi ((a+r1:Nat):Int)):=by rw[ko (by omega) (by omega)];rfl
   obtain⟨r2,e2,c1,c2,c3⟩:=ih' (a+r1) (by omega);refine⟨r2,?_,by omega,by omega,by omega⟩;rw[jio];simp only[jk,hlt,jf hi,jp,hc,e1,hk,h5,e2]
theorem size_eq:∀t:T,twf t->tsz t<=1048576-> ∃r:Nat,G 149 [tm t]=some (vi r,[])/\r<=nodes t/\(nodes t<=30->r=nodes t)/\(30<nodes t->30<r):=by
 refine T.ind λt ih hw hs=>?_;obtain⟨w1,w2,w3⟩:=(yg t).1 hw;have w3:=(zv _).1 w3;have hn:=Qa t;rw[jM]at hn;rw[kU]at hs;obtain⟨r,h1,h2,h3,h4⟩:=jlG t.args w2 (by rw[kU]at hn;omega) (λu hu=>ih u hu (w3 u hu) (by have:=yw hu;omega)) 0 (Nat.zero_le _) 1 (by rw[kU]at hn;simp;omega);simp only[List.drop_zero,Int.natCast_zero,Int.natCast_one]at h1 h2 h3 h4;refine⟨r,?_,by rw[jM];exact h2,by rw[jM];exact h3,by rw[jM];exact h4⟩;rw[jvc];simp only[jk,h1]
theorem jk5(n:Xb)(most:Int)(hm1: -1048600<=most)(hm:most<=1048576)(ts:Xg)(hl:ts.length<=9223372036854775807)(ih:∀t∈ts,∀m:Int,-1048600<=m->m<=1048576-> ∃r:Nat,G 134 [tm t,vi m]=some (vi r,[])/\1<=r/\r<=nodes t/\((nodes t:Int)<=m->r=nodes t)/\(m<nodes t->m<r)) :
  ∀i,i<=ts.length-> ∀a:Nat,1<=a->a+jA (ts.drop i)<=1048578-> ∃r:Nat,jeH (vi most) (vi a) (vi i) (sv n) (zR ts)=some (vi r,[])/\1<=r/\r<=a+jA (ts.drop i)/\(((a+jA (ts.drop i):Nat):Int)<=most->r=a+jA (ts.drop i))/\(most<((a+jA (ts.drop i):Nat):Int)->most<r):=by
 refine upto ?_ ?_
 .intro a h1 ha;rw[jin,List.drop_length];simp only[jk,jA,Nat.add_zero];exact⟨a,rfl,h1,Nat.le_refl _,λ_=>rfl,λh=>h⟩
 .intro i hi ih' a h1 ha;have hlt:(i:Int)<((ts.length:Nat):Int):=by omega
  have h5:=j6 hi hl;rw[jL hi]at ha⊢;simp only[jA]at ha⊢;by_cases hc:(a:Int)<=most
  .obtain ⟨r1,e1,b0,b1,b2,b3⟩:=ih ts[i] (List.getElem_mem _) (most-a) (by omega) (by omega);have hk0:ck (most-(a:Int))=some (vi (most-a)):=ko (by omega) (by omega);have hk:ck ((a:Int)+(r1:Int))=some (vi ((a+r1:Nat):Int)):=by rw[ko (by omega) (by omega)];rfl
   obtain⟨r2,e2,c0,c1,c2,c3⟩:=ih' (a+r1) (by omega) (by omega);refine⟨r2,?_,by omega,by omega,by omega,by omega⟩;rw[jin];simp only[jk,hlt,jf hi,jp,hc,hk0,e1,hk,h5,e2]
  .refine ⟨a,?_,h1,by omega,by omega,by omega⟩;rw[jin];simp only[jk,hlt,hc]
theorem jpo:∀t:T,twf t->tsz t<=1048576-> ∀m:Int,-1048600<=m->m<=1048576-> ∃r:Nat,G 134 [tm t,vi m]=some (vi r,[])/\1<=r/\r<=nodes t/\((nodes t:Int)<=m->r=nodes t)/\(m<nodes t->m<r):=by
 refine T.ind λt ih hw hs m hm1 hm=>?_;obtain⟨w1,w2,w3⟩:=(yg t).1 hw;have w3:=(zv _).1 w3;have hn:=Qa t;rw[jM]at hn;obtain⟨r,h1,h0,h2,h3,h4⟩:=jk5 t.name m hm1 hm t.args w2 (λu hu m h1 h2=>ih u hu (w3 u hu) (by have:=yw hu;rw[kU]at hs;omega) m h1 h2) 0 (Nat.zero_le _) 1 (Nat.le_refl _) (by simp;omega);simp only[List.drop_zero,Int.natCast_zero,Int.natCast_one]at h1 h2 h3 h4;refine⟨r,?_,h0,by rw[jM];exact h2,by rw[jM];exact h3,by rw[jM];exact h4⟩;rw[ju6];simp only[jk,h1]
theorem jib(ts:Xg)(hl:ts.length<=9223372036854775807)(hn:jA ts<=1048577)(ih:∀t∈ts,G 150 [tm t]=some (vi (qx t:Nat),[])) :
  ∀i,i<=ts.length-> ∀a:Nat,a<=1048577->jeL (vi a) (zR ts) (vi (ts.length:Nat)) (vi i)=some (vi ((max a (ZQ (ts.drop i))+1:Nat):Int),[]):=by
 refine upto ?_ ?_
 .intro a ha;have hk:ck ((a:Int)+1)=some (vi ((a+1:Nat):Int)):=by rw[ko (by omega) (by omega)];rfl
  rw[jm1,List.drop_length];simp only[jk,ZQ,hk,Nat.max_zero]
 .intro i hi ih' a ha;have hlt:(i:Int)<((ts.length:Nat):Int):=by omega
  have h5:=j6 hi hl;have e1:=ih ts[i] (List.getElem_mem _);have hd:qx ts[i]<=1048577:=Nat.le_trans (jia _) (Nat.le_trans (Ym (List.getElem_mem hi)) hn);have hmx:(if(a:Int)<((qx ts[i]:Nat):Int)then((qx ts[i]:Nat):Int)else(a:Int))=((max a (qx ts[i]):Nat):Int):=by split<;>omega
  have ih':=ih' (max a (qx ts[i])) (by omega);rw[jm1,jL hi];simp only[jk,hlt,jf hi,jp,e1,hmx,h5,ih',ZQ,Nat.max_assoc]
theorem jmA:∀t:T,twf t->tsz t<=1048576->G 150 [tm t]=some (vi (qx t:Nat),[]):=by
 refine T.ind λt ih hw hs=>?_;obtain⟨w1,w2,w3⟩:=(yg t).1 hw;have w3:=(zv _).1 w3;have hn:=Qa t;rw[jM]at hn;have h1:=jib t.args w2 (by omega) (λu hu=>ih u hu (w3 u hu) (by have:=yw hu;rw[kU]at hs;omega)) 0 (Nat.zero_le _) 0 (by omega);simp only[List.drop_zero,Int.natCast_zero,Nat.zero_max]at h1;rw[jvd,jbD,Nat.add_comm];simp only[jk,h1]
theorem jpq(a b:Nat):G 164 [vi a,vi b]=some (vi ((max a b:Nat):Int),[]):=by
 rw[jvn];by_cases h:(b:Int)<(a:Int)
 .simp only[jk,h];rw[Nat.max_eq_left (by omega)]
 .simp only[jk,h];rw[Nat.max_eq_right (by omega)]
theorem jfh(n:Xb)(ts:Xg)(hl:ts.length<=9223372036854775807)(hn:jA ts<=1048577)(ih:∀t∈ts,G 135 [tm t]=some (vi (qx t:Nat),[])) :
  ∀i,i<=ts.length-> ∀a:Nat,a<=1048577->jeI (vi a) (vi i) (sv n) (zR ts)=some (vi ((max a (ZQ (ts.drop i))+1:Nat):Int),[]):=by
 refine upto ?_ ?_
 .intro a ha;have hk:ck ((a:Int)+1)=some (vi ((a+1:Nat):Int)):=by rw[ko (by omega) (by omega)];rfl
  rw[jmZ,List.drop_length];simp only[jk,ZQ,hk,Nat.max_zero]
 .intro i hi ih' a ha;have hlt:(i:Int)<((ts.length:Nat):Int):=by omega
  have h5:=j6 hi hl;have e1:=ih ts[i] (List.getElem_mem _);have e2:=jpq a (qx ts[i]);have hd:qx ts[i]<=1048577:=Nat.le_trans (jia _) (Nat.le_trans (Ym (List.getElem_mem hi)) hn);have ih':=ih' (max a (qx ts[i])) (by omega);rw[jmZ,jL hi];simp only[jk,hlt,jf hi,jp,e1,e2,h5,ih',ZQ,Nat.max_assoc]
theorem jiq:∀t:T,twf t->tsz t<=1048576->G 135 [tm t]=some (vi (qx t:Nat),[]):=by
 refine T.ind λt ih hw hs=>?_;obtain⟨w1,w2,w3⟩:=(yg t).1 hw;have w3:=(zv _).1 w3;have hn:=Qa t;rw[jM]at hn;have h1:=jfh t.name t.args w2 (by omega) (λu hu=>ih u hu (w3 u hu) (by have:=yw hu;rw[kU]at hs;omega)) 0 (Nat.zero_le _) 0 (by omega);simp only[List.drop_zero,Int.natCast_zero,Nat.zero_max]at h1;rw[ju7,jbD,Nat.add_comm];simp only[jk,h1]
def kz(t:T):Bool:=decide (nodes t<=30) && decide (qx t<=8)
def j9(t:T):Bool:=kz t && zy t
theorem jbX(t:T)(hw:twf t)(hs:tsz t<=1048576):G 118 [tm t]=some (vb (kz t),[]):=by
 obtain⟨r,h1,h2,h3,h4⟩:=size_eq t hw hs;have hd:=jmA t hw hs;rw[ju0];by_cases h:nodes t<=30
 .have:(r:Int)<=30:=by have:=h3 h;omega
  have e:decide (((qx t:Nat):Int)<=8)=decide (qx t<=8):=by congr 1;exact propext (by omega)
  simp only[jk,h1,hd,this,kz,h,e,Bool.true_and]
 .have:¬(r:Int)<=30:=by have:=h4 (by omega);omega
  simp only[jk,h1,this,kz,h,Bool.false_and]
theorem jdO(t:T)(hw:twf t)(hs:tsz t<=1048576):G 94 [tm t]=some (vb (kz t),[]):=by
 obtain⟨r,h1,h0,h2,h3,h4⟩:=jpo t hw hs 30 (by decide) (by decide);have hd:=jiq t hw hs;rw[g94];by_cases h:nodes t<=30
 .have:(r:Int)<=30:=by have:=h3 (by omega);omega
  have e:decide (((qx t:Nat):Int)<=8)=decide (qx t<=8):=by congr 1;exact propext (by omega)
  simp only[jk,h1,hd,this,kz,h,e,Bool.true_and]
 .have:¬(r:Int)<=30:=by have:=h4 (by omega);omega
  simp only[jk,h1,this,kz,h,Bool.false_and]
theorem jaN{f:FuncId}{caps:Xd}(hsig:K.pureF f=true)(p:T->Bool)(ts:Xg)(hl:ts.length<=9223372036854775807)(h:∀t∈ts,G f (tm t::caps)=some (vb (p t),[])) :
  ∃r:Int,G 175 [zR ts,.fn f caps]=some (vi r,[])/\decide (0<=r)=ts.any p:=by
 have key:=upto (P:=λi=>∃r:Int,jeM (zR ts) (.fn f caps) (vi (ts.length:Nat)) (vi i)=some (vi r,[])/\decide (0<=r)=(ts.drop i).any p) (n:=ts.length) ?_ ?_ 0 (Nat.zero_le _)
 .obtain ⟨r,h1,h2⟩:=key;simp only[Int.natCast_zero,List.drop_zero]at h1 h2;refine⟨r,?_,h2⟩;rw[jvp];simp only[jk,h1]
 .refine ⟨-1,?_,by simp⟩;rw[jm2];simp only[jk]
 .intro i hi ih;obtain⟨r,h1,h2⟩:=ih;have hlt:(i:Int)<((ts.length:Nat):Int):=by omega
  have h5:=j6 hi hl;have e1:=h ts[i] (List.getElem_mem _);rw[jm2,jL hi,List.any_cons];cases hp:p ts[i]<;>rw[hp]at e1
  .refine ⟨r,?_,by rw[h2,Bool.false_or]⟩;simp only[jk,hlt,jf hi,jp,YP hsig,List.cons_append,List.nil_append,e1,h5,h1]
  .refine ⟨i,?_,by simp⟩;simp only[jk,hlt,jf hi,jp,YP hsig,List.cons_append,List.nil_append,e1]
theorem jbC{f:FuncId}{caps:Xd}(hsig:K.pureF f=true)(p:T->Bool)(ts:Xg)(hl:ts.length<=9223372036854775807)(h:∀t∈ts,G f (tm t::caps)=some (vb (p t),[])) :
  G 152 [zR ts,.fn f caps]=some (vb (ts.any p),[]):=by
 obtain⟨r,h1,h2⟩:=jaN hsig p ts hl h;rw[jvf];simp only[jk,h1,h2]
theorem jf5(p:T->Bool)(ts:Xg):(ts.any λt=> !p t)=!ts.all p:=by
 induction ts with
 |nil=>rfl
 |cons t ts ih=>rw[List.any_cons,List.all_cons,ih];cases p t<;>rfl
theorem KY:∀t:T,twf t->G 119 [tm t]=some (vb (zy t),[]):=by
 refine T.ind λt ih hw=>?_;obtain⟨w1,w2,w3⟩:=(yg t).1 hw;have w3:=(zv _).1 w3;have e1:=jdk t.name w1;have e2:=jal t.name w1;have e3:=jbC (f:=153) (caps:=[]) rfl (λu=> !zy u) t.args w2 (λu hu=>by
  have:=ih u hu (w3 u hu);rw[jvg];simp only[jk,this])
 rw[jf5,<-yq]at e3;rw[ju1,zF];have e4:decide (((t.args.length:Nat):Int)=0)=t.args.isEmpty:=by cases t.args<;>simp;omega
 have e5:decide (((t.args.length:Nat):Int)<=4)=decide (t.args.length<=4):=by congr 1;exact propext (by omega)
 cases hv:jE t.name<;>rw[hv]at e1
 .cases hy:zW t.name<;>rw[hy]at e2
  .simp only[jk,e1,e2,Bool.false_and]
  .cases ha:decide (t.args.length<=4)<;>rw[ha]at e5
   .simp only[jk,e1,e2,e5,Bool.false_and,Bool.true_and]
   .simp only[jk,e1,e2,e5,e3,Bool.true_and,Bool.not_not]
 .simp only[jk,e1,e4]
theorem Ye:∀t:T,twf t->G 95 [tm t]=some (vb (zy t),[]):=by
 refine T.ind λt ih hw=>?_;obtain⟨w1,w2,w3⟩:=(yg t).1 hw;have w3:=(zv _).1 w3;have e1:=jb9 t.name w1;have e2:=jao t.name w1;have key:=upto (P:=λi=>jjv (vi i) (sv t.name) (zR t.args)=some (vb (QS (t.args.drop i)),[])) (n:=t.args.length) ?_ ?_ 0 (Nat.zero_le _)
 .simp only[Int.natCast_zero,List.drop_zero]at key;rw[g95,zF];have e4:decide (((t.args.length:Nat):Int)=0)=t.args.isEmpty:=by cases t.args<;>simp;omega
  cases hv:jE t.name<;>rw[hv]at e1
  .cases hy:zW t.name<;>rw[hy]at e2
   .simp only[jk,e1,e2,Bool.false_and]
   .by_cases ha:4<((t.args.length:Nat):Int)
    .have:¬t.args.length<=4:=by omega
     simp only[jk,e1,e2,ha,this,Bool.false_and,Bool.and_false]
    .have:t.args.length<=4:=by omega
     simp only[jk,e1,e2,ha,this,key,Bool.true_and]
  .simp only[jk,e1,e4]
 .rw [jqC,List.drop_length];simp only[jk,QS]
 .intro i hi ih';have hlt:(i:Int)<((t.args.length:Nat):Int):=by omega
  have h5:=j6 hi w2;have e3:=ih t.args[i] (List.getElem_mem _) (w3 _ (List.getElem_mem _));rw[jqC,jL hi,QS];cases hp:zy t.args[i]<;>rw[hp]at e3
  .simp only[jk,hlt,jf hi,jp,e3,Bool.false_and]
  .simp only[jk,hlt,jf hi,jp,e3,h5,ih',Bool.true_and]
theorem jbZ(t:T)(hw:twf t)(hs:tsz t<=1048576):G 121 [tm t]=some (vb (j9 t),[]):=by
 have e1:=jbX t hw hs;have e2:=KY t hw;rw[ju3,j9];cases h:kz t<;>rw[h]at e1<;>simp only[jk,e1,e2,Bool.true_and,Bool.false_and]
theorem jdP(t:T)(hw:twf t)(hs:tsz t<=1048576):G 97 [tm t]=some (vb (j9 t),[]):=by
 have e1:=jdO t hw hs;have e2:=Ye t hw;rw[g97,j9];cases h:kz t<;>rw[h]at e1<;>simp only[jk,e1,e2,Bool.true_and,Bool.false_and]
def juR(o:Ord')(i:Nat):Bool:=zW (o.syms.getD i []) && (!(o.syms.take i).contains (o.syms.getD i []) && KB o.var 100 (o.ws.getD i 0))
def jjf(o:Ord'):Bool:=KB 1 12 (o.syms.length:Nat) && (decide (o.ws.length=o.syms.length) && (KB 1 100 o.var && (List.range o.syms.length).all (juR o)))
mutual
def joL(l:Xa):T->Bool
 |.mk n us=>(jE n || l.contains n) && jqm l us
def jqm(l:Xa):Xg->Bool
 | []=>true
 |t::ts=>joL l t && jqm l ts
end
theorem y7{t:T}(h:zy t=true):∀u∈t.args,zy u=true:=by
 rw[zF]at h;intro u hu;split at h
 .rw [List.isEmpty_iff.1 h]at hu;cases hu
 .simp only[Bool.and_eq_true]at h;rw[yq]at h;exact List.all_eq_true.1 h.2.2 u hu
theorem jnh{t:T}(h:zy t=true):∃c r,t.name=c::r/\jE t.name=upc c/\(upc c=false->zW t.name=true):=by
 rw[zF]at h;cases hn:t.name with
 |nil=>rw[hn]at h;simp[jE,zW]at h
 |cons c r=>
  refine⟨c,r,rfl,?_,?_⟩
  .rw [hn]at h;cases hu:upc c with
   |false=>simp[jE,hu]
   |true=>
    cases hv:jE (c::r)with
    |true=>rfl
    |false=>
     rw[hv]at h;have:ZR c=false:=by
      simp only[upc,KB,ZR,Bool.and_eq_true,decide_eq_true_eq]at hu⊢;have:¬(97<=(c.toNat:Int)):=by omega
      simp[this]
     simp[zW,this]at h
  .intro hu;rw[hn]at h;have:jE (c::r)=false:=by simp[jE,hu]
   rw[this]at h;simp at h;exact h.1
theorem jmR(t:T)(h:zy t=true):G 122 [tm t]=some (vb (jE t.name),[]):=by
 obtain⟨c,r,hn,hv,_⟩:=jnh h;have e1:=qY c;rw[<-hv]at e1;rw[js7];have hx:jT (sv t.name) (vi 0)=some (vy (c.toNat:Int)):=by rw[hn];exact zh
 simp only[jk,hx,e1]
def good(o:Ord')(t:T):Bool:=j9 t && joL o.syms t
def jvN(o:Ord')(n:Xb):Int:=match Z8 n o.syms with|some k=>o.ws.getD k 0|none=>0
mutual
def wt(o:Ord'):T->Int
 |.mk n us=>(if jE n then o.var else jvN o n)+wtL o us
def wtL(o:Ord'):Xg->Int
 | []=>0
 |t::ts=>wt o t+wtL o ts
end
def jsd(o:Ord')(t:T):A:=if jjf o && good o t then .tup [vi (wt o t),vb true]else .tup [vi 0,vb false]
noncomputable def dq{α:Type}(a b:α):Bool:=@decide (a=b) (Classical.propDecidable _)
theorem Zu{α:Type}{a b:α} :dq a b=true↔a=b:=by unfold dq;exact @decide_eq_true_iff _ (Classical.propDecidable _)
theorem jmB{α:Type}{a b:α} :dq a b=false↔ ¬a=b:=by unfold dq;exact @decide_eq_false_iff_not _ (Classical.propDecidable _)
theorem jeX{α:Type}(a:α):dq a a=true:=Zu.2 rfl
theorem joN{α:Type}(a b:α)(l r:List α):dq (a::l) (b::r)=(dq a b && dq l r):=by
 rw[Bool.eq_iff_iff,Bool.and_eq_true,Zu,Zu,Zu,List.cons.injEq]
theorem juT(s t:T):dq s t=(decide (s.name=t.name) && dq s.args t.args):=by
 cases s with
 |mk n us=>cases t with
  |mk m vs=>rw[Bool.eq_iff_iff,Bool.and_eq_true,Zu,Zu,decide_eq_true_iff,T.mk.injEq];rfl
theorem jrx{α:Type}{a b:List α}(h:¬a.length=b.length):dq a b=false:=jmB.2 λe=>h (by rw[e])
def rk(o:Ord')(t:T):Int:=ZW 0 (Z8 t.name o.syms)
def jsX(a b:Int):Int:=if a<b then -1 else if b<a then 1 else 0
def jkm(o:Ord')(s t:T):Int:=if rk o s=rk o t then jsX (s.args.length:Nat) (t.args.length:Nat)else jsX (rk o s) (rk o t)
noncomputable def fd:Xg->Xg->Option (T×T)
 |a::l,b::r=>if dq a b=true then fd l r else some (a,b)
 |_,_=>none
def zT:A:= .agg [sv [],.sl 2 []]
noncomputable def fdR(s t:T):A:=match fd s.args t.args with|some (a,b)=>.tup [tm a,tm b,vb true]|none=>.tup [zT,zT,vb false]
noncomputable def jk4(o:Ord'):Nat->T->T->Bool
 |0,_,_=>false
 |n+1,s,t=>if jE s.name then false else if(s.args.any λa=>dq a t || jk4 o n a t)then true else if jE t.name then false
   else if(t.args.any λb=> !jk4 o n s b)then false else if 0<jkm o s t then true else if jkm o s t<0 then false
   else match fd s.args t.args with|some (a,b)=>jk4 o n a b|none=>false
def jqk(e g l:Bool):Int:=if e then 1 else if g then 2 else if l then 3 else 0
noncomputable def jrt(o:Ord')(s t:T):Int:=jqk (dq s t) (jk4 o (nodes s+nodes t) s t) (jk4 o (nodes s+nodes t) t s)
noncomputable def jrw(o:Ord')(s t:T):A:=if jjf o && (good o s && good o t)then .tup [vi (jrt o s t),vb true]else .tup [vi 0,vb false]
mutual
def jaC:T->Xa
 |.mk n us=>if jE n then[n]else qm us
def qm:Xg->Xa
 | []=>[]
 |t::ts=>jaC t++qm ts
end
theorem jc7(t:T):jaC t=if jE t.name then[t.name]else qm t.args:=by cases t;rfl
def juu(l:Xa)(vs:Xa)(k:Nat)(r:Xa):Prop:=(∀n,n∈r↔n∈l\/n∈vs)/\r.length<=l.length+k
mutual
def cnt(n:Xb):T->Nat
 |.mk m us=>(if m=n then 1 else 0)+jsY n us
def jsY(n:Xb):Xg->Nat
 | []=>0
 |t::ts=>cnt n t+jsY n ts
end
def bal(s t:T):Bool:=(jaC t).all λn=>decide (cnt n t<=cnt n s)
noncomputable def jpf(o:Ord'):Nat->T->T->Bool
 |0,_,_=>false
 |n+1,s,t=>if bal s t then(if wt o s=wt o t then(if jE s.name || jE t.name then false else if jkm o s t=0 then(match fd s.args t.args with|some (a,b)=>jpf o n a b|none=>false)else decide (0<jkm o s t))else decide (wt o t<wt o s))else false
noncomputable def jrs(o:Ord')(s t:T):Int:=jqk (dq s t) (jpf o (nodes s+nodes t) s t) (jpf o (nodes s+nodes t) t s)
noncomputable def jrv(o:Ord')(s t:T):A:=if jjf o && (good o s && good o t)then .tup [vi (jrs o s t),vb true]else .tup [vi 0,vb false]
def ym(t:T):T:=t.args.getD 0 (.mk [] [])
def qe(t:T):T:=t.args.getD 1 (.mk [] [])
def jeY(t:T):Bool:=decide (t.args.length=2) && (kz t && (zy (ym t) && zy (qe t)))
theorem QH{t:T}(hl:t.args.length=2):js 2 (zR t.args) (vi 0)=some (.elt (jl (ym t)) 0)/\js 2 (zR t.args) (vi 1)=some (.elt (jl (qe t)) 0)/\ym t∈t.args/\qe t∈t.args:=by
 have e0:ym t=t.args[0]:=by unfold ym;simp[List.getD_eq_getElem?_getD,hl]
 have e1:qe t=t.args[1]:=by unfold qe;simp[List.getD_eq_getElem?_getD,hl]
 rw[e0,e1];exact⟨jf (i:=0) (by omega),jf (i:=1) (by omega),List.getElem_mem _,List.getElem_mem _⟩
theorem jip(t:T)(hw:twf t)(hs:tsz t<=1048576)(he:t.name=[61]):G 55 [tm t]=some (vb (jeY t),[]):=by
 obtain⟨w1,w2,w3⟩:=(yg t).1 hw;have w3:=(zv _).1 w3;have het:(t.name=[61])=True:=eq_true he;unfold jeY;rw[g55];by_cases hl:t.args.length=2;rotate_left
 .have hl':¬((t.args.length:Nat):Int)=2:=by omega
  simp only[jk,het,hl',hl,Bool.false_and]
 have hl':((t.args.length:Nat):Int)=2:=by omega
 rw[decide_eq_true hl,Bool.true_and];obtain⟨i0,i1,ma,mb⟩:=QH hl;have p1:=jdO t hw hs;have p2:=Ye _ (w3 _ ma);have p3:=Ye _ (w3 _ mb);cases h1:kz t<;>rw[h1]at p1
 .simp only[jk,het,hl',p1,Bool.false_and]
 .cases h2:zy (ym t)<;>rw[h2]at p2
  .simp only[jk,het,hl',p1,i0,jp,p2,Bool.false_and,Bool.and_false]
  .simp only[jk,het,hl',p1,i0,i1,jp,p2,p3,Bool.true_and]
theorem z7(t:T):G 84 [tm t]=some (vb (decide (t.name=[61])),[]):=by
 rw[g84];simp only[jk]
theorem jaO(t:T)(hw:twf t)(hs:tsz t<=1048576)(he:t.name=[61]):G 78 [tm t]=some (vb (jeY t),[]):=by
 obtain⟨w1,w2,w3⟩:=(yg t).1 hw;have w3:=(zv _).1 w3;have q0:=z7 t;rw[decide_eq_true he]at q0;unfold jeY;rw[g78];by_cases hl:t.args.length=2;rotate_left
 .have hl':¬((t.args.length:Nat):Int)=2:=by omega
  simp only[jk,q0,hl',hl,Bool.false_and]
 have hl':((t.args.length:Nat):Int)=2:=by omega
 rw[decide_eq_true hl,Bool.true_and];obtain⟨i0,i1,ma,mb⟩:=QH hl;have p1:=jbX t hw hs;have p2:=KY _ (w3 _ ma);have p3:=KY _ (w3 _ mb);cases h1:kz t<;>rw[h1]at p1
 .simp only[jk,q0,hl',p1,Bool.false_and]
 .cases h2:zy (ym t)<;>rw[h2]at p2
  .simp only[jk,q0,hl',p1,i0,jp,p2,Bool.false_and,Bool.and_false]
  .simp only[jk,q0,hl',p1,i0,i1,jp,p2,p3,Bool.true_and]
def jwH(o:Ord')(t:T):Bool:=decide (t.name=[61]) && (jeY t && (joL o.syms (ym t) && joL o.syms (qe t)))
theorem zp(n:Xb)(us:Xg):tsz (.mk n us)=n.length+us.length+kM us:=rfl
theorem jc4:∀t:T,tsz t<=1048576->twf t:=by
 refine T.ind λt ih h=>?_;have h':=h;rw[kU]at h';exact(yg t).2 ⟨by omega,by omega,(zv _).2 λu hu=>ih u hu (by have:=yw hu;omega)⟩
theorem jlk{n:Nat}(h:n<=4194304):ky n 40=true:=by
 unfold ky;exact decide_eq_true ⟨by omega,by omega⟩
theorem jno(t:T):tsz t<=1048576->G 100 [tm t]=some (tm t,[]):=by
 refine T.ind (p:=λt=>tsz t<=1048576->G 100 [tm t]=some (tm t,[])) ?_ t;intro t ih h;rw[kU]at h;have key:=(upto (P:=λi=>jeF (vi i) (sv t.name) (zR t.args) (sv []) (sv t.name) [] ((t.args.take i).map jl)=some (tm t,[])) (n:=t.args.length) ?_ ?_ 0 (Nat.zero_le _))
 .rw [juW];simp only[Int.natCast_zero,List.take_zero,List.map_nil]at key;simp only[jk,key]
 .rw [jmX,List.take_length];simp only[jk]
 .intro i hi ih';have hlt:(i:Int)<((t.args.length:Nat):Int):=by omega
  have h5:=j6 hi (by show t.args.length<=9223372036854775807;omega)
  have e1:=ih t.args[i] (List.getElem_mem _) (by have:=yw (List.getElem_mem hi);omega)
  have hf:ky (i+1) 40=true:=jlk (by omega);have hl:((t.args.take i).map jl).length=i:=by rw[List.length_map,List.length_take];omega
  have ha:zk ((t.args.take i).map jl) [[sv t.args[i].name,zR t.args[i].args]]=(t.args.take (i+1)).map jl:=by
   rw[show[sv t.args[i].name,zR t.args[i].args]=jl t.args[i] from(jI _).symm,List.take_add_one,List.getElem?_eq_getElem hi,List.map_append];rfl
  rw[jmX];simp only[jk,hlt,jf hi,jp,e1,hl,hf,ha,h5,ih']
def Lp(o:Ord')(s t:T):Prop:=jk4 o (nodes s+nodes t) s t=true
def Kp(o:Ord')(s t:T):Prop:=jpf o (nodes s+nodes t) s t=true
def rbI(c:Int):Int:=if c=2 then 3 else if c=3 then 2 else c
open Classical in
open Classical in
def look:List (Xb×T)->Xb->Option T
 | [],_=>none
 |p::u,n=>if p.1=n then some p.2 else look u n
def jlO(u:List (Xb×T))(n:Xb):T:=(look u n).getD (.mk n [])
mutual
def sub(u:List (Xb×T)):T->T
 |.mk n us=>if jE n then jlO u n else .mk n (jlP u us)
def jlP(u:List (Xb×T)):Xg->Xg
 | []=>[]
 |t::ts=>sub u t::jlP u ts
end
theorem jhF(u:List (Xb×T)):∀ts:Xg,jlP u ts=ts.map (sub u)
 | []=>rfl
 |t::ts=>by rw[jlP,jhF u ts,List.map_cons]
theorem jkx{u:List (Xb×T)}{t:T}(h:jE t.name=true):sub u t=jlO u t.name:=by
 obtain⟨n,us⟩:=t;have h:jE n=true:=h;show(if jE n then jlO u n else T.mk n (jlP u us))=_;rw[if_pos h];rfl
theorem jbe{u:List (Xb×T)}{t:T}(h:jE t.name=false):sub u t = .mk t.name (t.args.map (sub u)):=by
 obtain⟨n,us⟩:=t;have h:jE n=false:=h;show(if jE n then jlO u n else T.mk n (jlP u us))=_;rw[h,if_neg Bool.false_ne_true,jhF];rfl
theorem jcV{u:List (Xb×T)}{t:T}(h:jE t.name=false):(sub u t).name=t.name:=by rw[jbe h];rfl
theorem jcU{u:List (Xb×T)}{t:T}(h:jE t.name=false):(sub u t).args=t.args.map (sub u):=by rw[jbe h];rfl
theorem joh{t:T}(h:zy t=true)(hv:jE t.name=true):t.args=[]:=by
 rw[zF,hv,if_pos rfl]at h;exact List.isEmpty_iff.1 h
def jvM(f:Xb->Int):Xa->Int
 | []=>0
 |x::l=>f x+jvM f l
abbrev bc(p:Xb×T):Xd:=[sv p.1,sv p.2.name,.sl 2 (p.2.args.map jl)]
abbrev sbs(u:List (Xb×T)):A:= .sl 3 (u.map bc)
abbrev sb(u:List (Xb×T)):A:= .agg [sbs u]
def Sz(z:Nat)(u:List (Xb×T)):Prop:=u.length<=z/\ ∀p∈u,p.1.length<=z/\tsz p.2<=z
abbrev kI:=List (Xb×T)
mutual
noncomputable def mt(m:kI)(p:T)(t:T):Option kI:=
 match p with
 |.mk n us=>if jE n then(match look m n with|some r=>if dq r t then some m else none|none=>some (m++[(n,t)]))
   else if n=t.name/\us.length=t.args.length then mtL m us t.args else none
termination_by structural p
noncomputable def mtL(m:kI)(ps:Xg)(ts:Xg):Option kI:=
 match ps with
 | []=>some m
 |u::us=>(match ts with| []=>some m|t::ts=>(mt m u t).bind λm'=>mtL m' us ts)
termination_by structural ps
end
theorem jfk:∀{u:kI}{n:Xb}{r:T},look u n=some r->(n,r)∈u
 |p::u,n,r,h=>by
  rw[look]at h;by_cases e:p.1=n
  .rw [if_pos e]at h;cases h;rw[<-e];simp
  .rw [if_neg e]at h;exact List.mem_cons_of_mem _ (jfk h)
def MOk(p:T->Prop)(m:kI):Prop:=(m.map Prod.fst).Nodup/\(∀q∈m,jE q.1=true/\p q.2)
theorem MOk.nil(p:T->Prop):MOk p []:=⟨by simp,λq h=>by cases h⟩
def jvG(s:kI)(n:Xb)(t:T):kI:=s.takeWhile (λp=>JD p.1 n)++(n,t)::s.dropWhile (λp=>JD p.1 n)
def jvF(s:kI)(n:Xb)(t:T):kI:=if t.name=n then s else jvG s n t
def jr2(m:kI):kI:=m.foldl (λs p=>jvF s p.1 p.2) []
theorem jkq(a:Xb):JD a a=false:=by
 unfold JD;cases h:Op.bytesLess a a with
 |false=>rfl
 |true=>
  exfalso;induction a with
  |nil=>simp[Op.bytesLess]at h
  |cons c r ih=>simp[Op.bytesLess]at h;exact ih h
theorem jng(n:Xb)(h:jE n=true):zy (.mk n [])=true:=by rw[zF];show(if jE n then _ else _)=true;rw[if_pos h];rfl
theorem Q0{u:kI}(hu:∀q∈u,zy q.2=true):∀t:T,zy t=true->zy (sub u t)=true:=by
 refine T.ind λt ih hk=>?_;cases hv:jE t.name with
 |true=>
  rw[jkx hv,jlO];cases h:look u t.name with
  |none=>exact jng _ hv
  |some r=>exact hu _ (jfk h)
 |false=>
  have hk':=hk;rw[zF,hv,if_neg Bool.false_ne_true,Bool.and_eq_true,Bool.and_eq_true,yq]at hk;rw[zF,jcV hv,hv,if_neg Bool.false_ne_true,jcU hv,Bool.and_eq_true,Bool.and_eq_true,yq];refine⟨hk.1,by simpa using hk.2.1,?_⟩;rw[List.all_map,List.all_eq_true];intro a ha;exact ih a ha (List.all_eq_true.1 hk.2.2 a ha)
def jit(r:T):T:=r.args.getD 0 (.mk [] [])
def jiU(r:T):T:=r.args.getD 1 (.mk [] [])
noncomputable def jnW:Xg->T->Option T
 | [],_=>none
 |r::rs,t=>(match mt [] (jit r) t with|some m=>some (sub m (jiU r))|none=>jnW rs t)
mutual
noncomputable def jtr(rs:Xg)(root:Bool):T->Option T
 |.mk n us=>(match jqL rs us with|some us'=>some (.mk n us')|none=>if root then jnW rs (.mk n us)else none)
noncomputable def jqL(rs:Xg):Xg->Option Xg
 | []=>none
 |t::ts=>(match jtr rs true t with|some t'=>some (t'::ts)|none=>(jqL rs ts).map (t::·))
end
def atT:Xf->T->T
 | [],t=>t
 |i::p,t=>atT p (t.args.getD i (.mk [] []))
def jq3(s:T):Xf->T->T
 | [],_=>s
 |i::p,t=>.mk t.name (t.args.set i (jq3 s p (t.args.getD i (.mk [] []))))
mutual
def jhd:T->List Xf
 |.mk _ us=>jcw 0 us++[[]]
def jcw(i:Nat):Xg->List Xf
 | []=>[]
 |t::ts=>(jhd t).map (i::·)++jcw (i+1) ts
end
noncomputable def jvK(rs:Xg)(root:Bool)(t:T)(p:Xf):Option T:=if p=[]/\root=false then none else(jnW rs (atT p t)).map λs=>jq3 s p t
def jov(rs:Xg):Prop:=∀r∈rs,zy (jit r)=true/\zy (jiU r)=true
noncomputable def rwN(rs:Xg)(root:Bool):Nat->Nat->T->Option (T×Nat)
 |0,_,_=>none
 |k+1,n,t=>(match jtr rs root t with
  |none=>some (t,n)
  |some u=>if k=0\/kz u=false then none else rwN rs root k (n+1) u)
def MR(o:Xe)(r:Option kI):Prop:=match r with
 |some m'=>o=some (.top,[vb true,.sl 259 (m'.map bc)])
 |none=>∃R,o=some (.top,[vb false,.sl 259 R])
def Tz(t:T):Prop:=tsz t<=1048576
theorem Tz.args{t:T}(h:Tz t):∀u∈t.args,Tz u:=λu hu=>by
 have:=yw hu;unfold Tz at h⊢;rw[kU]at h;omega
theorem Tz.wf{t:T}(h:Tz t):twf t:=jc4 t h
abbrev kv(p:Xb×T):Xd:=[sv p.1,tm p.2]
def MI(o:Xe)(r:Option kI):Prop:=match r with
 |some m'=>o=some (.top,[vb true,.sl 128 (m'.map kv)])
 |none=>∃R,o=some (.top,[vb false,.sl 128 R])
theorem jlt{α:Type}(f:α->Xd)(l:List α):Qg (l.map f)=l.length:=List.length_map ..
abbrev pln(p:Xf):A:= .sl 1 (p.map λn=>[vi (n:Nat)])
abbrev plc(p:Xf):Xd:=[pln p]
mutual
theorem jln:∀t:T,(jhd t).length=nodes t
 |.mk n us=>by
  rw[jhd,nodes,List.length_append,jd5 us 0];simp;omega
theorem jd5:∀(us:Xg)(i:Nat),(jcw i us).length=jA us
 | [],i=>rfl
 |t::ts,i=>by
  rw[jcw,jA,List.length_append,List.length_map,jln t,jd5 ts (i+1)]
end
def okP:Xf->T->Prop
 | [],_=>True
 |i::p,t=>i<t.args.length/\okP p (t.args.getD i (.mk [] []))
theorem jjM{ts:Xg}{i:Nat}(h:i<ts.length):ts.getD i (.mk [] [])=ts[i]:=by rw[List.getD_eq_getElem?_getD,List.getElem?_eq_getElem h];rfl
mutual
theorem jnO:∀(t:T),∀p∈jhd t,okP p t/\p.length<=nodes t
 |.mk n us=>λp hp=>by
  rw[jhd,List.mem_append]at hp;rcases hp with hp|hp
  .obtain ⟨j,q,rfl,h1,h2,h3⟩:=jhc us 0 p hp;refine⟨?_,?_⟩
   .show (0+j)<us.length/\okP q (us.getD (0+j) _);rw[Nat.zero_add];exact⟨h1,h2⟩
   .rw [List.length_cons,nodes];omega
  .rw [List.mem_singleton]at hp;subst hp;exact⟨trivial,by simp⟩
theorem jhc:∀(us:Xg)(i:Nat),∀p∈jcw i us,∃j q,p=(i+j)::q/\j<us.length/\okP q (us.getD j (.mk [] []))/\q.length<=jA us
 | [],i,p,hp=>by rw[jcw]at hp;cases hp
 |t::ts,i,p,hp=>by
  rw[jcw,List.mem_append]at hp;rcases hp with hp|hp
  .obtain ⟨q,hq,rfl⟩:=List.mem_map.1 hp;obtain⟨h1,h2⟩:=jnO t q hq;exact⟨0,q,rfl,by simp,h1,by rw[jA];omega⟩
  .obtain ⟨j,q,rfl,h1,h2,h3⟩:=jhc ts (i+1) p hp;exact⟨j+1,q,by rw[show i+1+j=i+(j+1) by omega],by simpa using h1,by simpa using h2,by rw[jA];omega⟩
end
theorem jj9{q:T->Prop}(hq:∀t,q t-> ∀u∈t.args,q u):∀{p:Xf}{t:T},okP p t->q t->q (atT p t)
 | [],_,_,h=>h
 |i::p,t,hp,h=>by
  obtain⟨h1,h2⟩:=hp;refine jj9 (p:=p) hq h2 ?_;rw[jjM h1];exact hq t h _ (List.getElem_mem _)
theorem jog{n:Xb}(h:jE n=true):n.length<=4:=by
 cases n with
 |nil=>simp
 |cons c r=>
  simp only[jE,Bool.and_eq_true,decide_eq_true_eq]at h;rw[List.length_cons];omega
theorem jlR{n:Xb}(h:zW n=true):n.length<=6:=by
 cases n with
 |nil=>simp
 |cons c r=>
  simp only[zW,Bool.and_eq_true,decide_eq_true_eq]at h;rw[List.length_cons];omega
theorem K6:∀t:T,zy t=true->tsz t<=10*nodes t:=by
 refine T.ind λt ih hk=>?_;have hL:∀us:Xg,(∀u∈us,tsz u<=10*nodes u)->kM us<=10*jA us:=by
  intro us;induction us with
  |nil=>intro _;simp[kM]
  |cons u us ih2=>
   intro h;have:=h u (by simp);have:=ih2 λw hw=>h w (by simp[hw]);simp only[kM,jA];omega
 have h1:=hL t.args λu hu=>ih u hu (y7 hk u hu);rw[kU,jM];rw[zF]at hk;cases hv:jE t.name with
 |true=>
  rw[hv,if_pos rfl]at hk;have:=jog hv;rw[List.isEmpty_iff.1 hk]at h1⊢;simp only[List.length_nil,kM]at h1⊢;omega
 |false=>
  rw[hv,if_neg Bool.false_ne_true,Bool.and_eq_true,Bool.and_eq_true,decide_eq_true_eq]at hk;have:=jlR hk.1;omega
theorem jlQ{u:kI}{Z:Nat}(hZ:1<=Z)(hu:∀q∈u,nodes q.2<=Z):∀t:T,nodes (sub u t)<=nodes t*Z:=by
 refine T.ind λt ih=>?_;cases hv:jE t.name with
 |true=>
  have h1:=ZF t;have h2:1*Z<=nodes t*Z:=Nat.mul_le_mul_right Z h1;rw[jkx hv,jlO];cases hl:look u t.name with
  |none=>show 1+0<=_;omega
  |some r=>have:nodes r<=Z:=hu _ (jfk hl);show nodes r<=_;omega
 |false=>
  have hL:∀us:Xg,(∀v∈us,nodes (sub u v)<=nodes v*Z)->jA (us.map (sub u))<=jA us*Z:=by
   intro us;induction us with
   |nil=>intro _;simp[jA]
   |cons v us ih2=>
    intro h;have:=h v (by simp);have:=ih2 λw hw=>h w (by simp[hw]);simp only[List.map_cons,jA,Nat.add_mul];omega
  have:=hL t.args ih;rw[jM,jcU hv,jM t,Nat.add_mul];omega
theorem jk7{t u:T}(h:u∈t.args):nodes u<nodes t:=by
 have:=Ym h;have:=jM t;omega
def Vs(t:T):Prop:=zy t=true/\nodes t<=30
theorem Vs.args{t:T}(h:Vs t):∀u∈t.args,Vs u:=λu hu=>⟨y7 h.1 u hu,by have:=jk7 hu;have:=h.2;omega⟩
theorem Vs.tz{t:T}(h:Vs t):Tz t:=by
 have:=K6 t h.1;have:=h.2;unfold Tz;omega
def RS(rs:Xg):Prop:=rs.length<=10/\ ∀r∈rs,r.args.length=2/\Vs (jit r)/\Vs (jiU r)
theorem RS.ok{rs:Xg}(h:RS rs):jov rs:=λr hr=>⟨(h.2 r hr).2.1.1,(h.2 r hr).2.2.1⟩
def EX(root:Bool)(t:T):Prop:=(nodes t<=31/\Tz t)/\(∀u∈t.args,Vs u)/\(root=true->Vs t)
def jxa(t:T)(o:Option T):Xe:=match o with|some u=>some (.tup [tm u,vb true],[])|none=>some (.tup [tm t,vb false],[])
theorem EX.at{root:Bool}{t:T}(h:EX root t){p:Xf}(hp:okP p t)(hne:¬(p=[]/\root=false)):Vs (atT p t):=by
 obtain⟨_,h1,h2⟩:=h;cases p with
 |nil=>
  cases root
  .exact absurd ⟨rfl,rfl⟩ hne
  .exact h2 rfl
 |cons i p=>
  obtain⟨a,b⟩:=hp;refine jj9 (p:=p) (q:=Vs) (λ_ h=>h.args) b ?_;rw[jjM a];exact h1 _ (List.getElem_mem _)
def jts(o:Option T):Xe:=match o with|some u=>some (.tup [tm u,vb true],[])|none=>some (.tup [.agg [sv [],.sl 2 []],vb false],[])
def Srt(l:Xa):Prop:=l.Pairwise λx y=>x<y
theorem jfK(x y:Xb):JD x y=decide (x<y):=Go.Proofs.bytesLess_eq x y
mutual
def jtX:T->Xa
 |.mk n us=>(if jE n then[]else[n])++job us
def job:Xg->Xa
 | []=>[]
 |t::ts=>jtX t++job ts
end
theorem ji7{n:Xb}(h:jE n=true):zW n=false:=by
 cases n with
 |nil=>rfl
 |cons c r=>
  simp only[jE,Bool.and_eq_true,upc,KB,decide_eq_true_eq]at h;have:ZR c=false:=by unfold ZR KB;rw[Bool.and_eq_false_iff];left;rw[decide_eq_false_iff_not];omega
  simp[zW,this]
def jvR(l vs:Xa)(k:Nat)(r:Xa):Prop:=juu l vs k r/\(l.Nodup->r.Nodup)
def jxn(r:Xa):Ord':=⟨r,List.replicate r.length 1,1⟩
def EX'(root:Bool)(t:T):Prop:=EX root t/\(root=false->t.name=[61]/\t.args.length=2)
theorem jj8{us:Xg}(h:∀u∈us,zy u=true):kM us<=10*jA us:=by
 induction us with
 |nil=>simp[kM]
 |cons u us ih=>
  have:=K6 u (h u (by simp));have:=ih λw hw=>h w (by simp[hw]);simp only[kM,jA];omega
def jw9(o:Option (T×Nat)):Xe:=match o with|some r=>some (.tup [tm r.1,vi (r.2:Nat),vb true],[])|none=>some (.tup [.agg [sv [],.sl 2 []],vi 0,vb false],[])
structure Law3{α:Type}(c:α->α->Int):Prop where
 zero:∀a b,c a b=0↔a=b
 flip:∀a b,c b a = -(c a b)
 trans:∀a b d,c a b<0->c b d<0->c a d<0
section
variable{α:Type}{c:α->α->Int}
def Asc(c:α->α->Int)(l:List α):Prop:=l.Pairwise λa b=>c a b<0
def js0(eq:α->α->Bool):List α->List α
 | []=>[]
 |a::l=>(match js0 eq l with| []=>[a]|b::m=>if eq a b then b::m else a::b::m)
theorem Z5{p:α->Bool} :∀{l:List α}{a:α},a∈l.takeWhile p->p a=true
 |x::l,a,h=>by
  by_cases hx:p x=true
  .rw [List.takeWhile_cons_of_pos hx]at h;rcases List.mem_cons.1 h with e|e
   .rw [e];exact hx
   .exact Z5 e
  .rw [List.takeWhile_cons_of_neg hx]at h;cases h
def KF(c:α->α->Int)(l:List α)(x:α):List α:=if(l.dropWhile λa=>decide (c a x<0)).head?.any (λb=>decide (c b x=0))then l else l.takeWhile (λa=>decide (c a x<0))++x::l.dropWhile λa=>decide (c a x<0)
theorem jbU(h:Law3 c){l:List α}(hl:Asc c l)(x:α):Asc c (KF c l x)/\ ∀y,y∈KF c l x↔y∈l\/y=x:=by
 have e:=List.takeWhile_append_dropWhile (p:=λa=>decide (c a x<0)) (l:=l);have ht:∀a∈l.takeWhile (λa=>decide (c a x<0)),c a x<0:=λa ha=>of_decide_eq_true (Z5 (p:=λa=>decide (c a x<0)) ha);unfold KF;generalize l.takeWhile (λa=>decide (c a x<0))=t at *;cases hd:l.dropWhile (λa=>decide (c a x<0))with
 |nil=>
  rw[hd,List.append_nil]at e;subst e;rw[if_neg (by simp)];refine⟨?_,λy=>by simp⟩;refine List.pairwise_append.2 ⟨hl,by simp,λa ha b hb=>?_⟩;simp only[List.mem_singleton]at hb;rw[hb];exact ht a ha
 |cons b m=>
  have hb:¬c b x<0:=by
   intro hb;have:=List.head?_dropWhile_not (p:=λa=>decide (c a x<0)) l;rw[hd]at this;simp[hb]at this
  rw[hd]at e;by_cases h0:c b x=0
  .rw [if_pos (by simp[h0])];refine⟨hl,λy=>⟨Or.inl,λhy=>?_⟩⟩;rcases hy with hy|hy
   .exact hy
   .rw [hy,<-(h.zero b x).1 h0,<-e];simp
  .rw [if_neg (by simp[h0])];rw[<-e]at hl;obtain⟨p1,p2,p3⟩:=List.pairwise_append.1 hl;have hxb:c x b<0:=by have:=h.flip b x;omega
   refine⟨List.pairwise_append.2 ⟨p1,List.pairwise_cons.2 ⟨λy hy=>?_,p2⟩,λa ha y hy=>?_⟩,λy=>?_⟩
   .rcases List.mem_cons.1 hy with e'|e'
    .rw [e'];exact hxb
    .exact h.trans x b y hxb ((List.pairwise_cons.1 p2).1 y e')
   .rcases List.mem_cons.1 hy with e'|e'
    .rw [e'];exact ht a ha
    .exact p3 a ha y e'
   .rw [<-e];simp only[List.mem_append,List.mem_cons];constructor
    .rintro (h|h|h|h)
     .exact Or.inl (Or.inl h)
     .exact Or.inr h
     .exact Or.inl (Or.inr (Or.inl h))
     .exact Or.inl (Or.inr (Or.inr h))
    .rintro ((h|h|h)|h)
     .exact Or.inl h
     .exact Or.inr (Or.inr (Or.inl h))
     .exact Or.inr (Or.inr (Or.inr h))
     .exact Or.inr (Or.inl h)
def KC(c:α->α->Int)(l:List α):List α:=l.foldl (KF c) []
theorem jdV(h:Law3 c)(l:List α):Asc c (KC c l)/\ ∀y,y∈KC c l↔y∈l:=by
 have key:∀(l m:List α),Asc c m->Asc c (l.foldl (KF c) m)/\ ∀y,y∈l.foldl (KF c) m↔y∈m\/y∈l:=by
  intro l;induction l with
  |nil=>intro m hm;exact⟨hm,λy=>by simp⟩
  |cons x l ih=>
   intro m hm;obtain⟨g1,g2⟩:=jbU h hm x;obtain⟨k1,k2⟩:=ih _ g1;refine⟨k1,λy=>?_⟩;rw[List.foldl_cons,k2,g2,List.mem_cons,or_assoc]
 obtain⟨g1,g2⟩:=key l [] List.Pairwise.nil;exact⟨g1,λy=>by rw[KC,g2];simp⟩
end
theorem jrK{α β γ:Type}{f:γ->α}{g:γ->β}{c:α->α->Int}{d:β->β->Int}(hc:Law3 c)(hd:Law3 d)(hi:∀x y,f x=f y->g x=g y->x=y):Law3 λx y:γ=>if c (f x) (f y)≠0 then c (f x) (f y)else d (g x) (g y):=by
 refine⟨λa b=>?_,λa b=>?_,λa b e=>?_⟩
 .show (if c (f a) (f b)≠0 then c (f a) (f b)else d (g a) (g b))=0↔_;by_cases h:c (f a) (f b)=0
  .rw [if_neg (λh'=>h' h),hd.zero];exact⟨λh2=>hi a b ((hc.zero _ _).1 h) h2,λh2=>by rw[h2]⟩
  .rw [if_pos h];exact⟨λh2=>absurd h2 h,λh2=>by rw[h2]at h;exact absurd ((hc.zero _ _).2 rfl) h⟩
 .show (if c (f b) (f a)≠0 then c (f b) (f a)else d (g b) (g a)) = -(if c (f a) (f b)≠0 then c (f a) (f b)else d (g a) (g b));rw[hc.flip (f a) (f b),hd.flip (g a) (g b)];by_cases h:c (f a) (f b)=0
  .rw [if_neg (by omega),if_neg (by omega)]
  .rw [if_pos (by omega),if_pos (by omega)]
 .show (if c (f a) (f b)≠0 then c (f a) (f b)else d (g a) (g b))<0->(if c (f b) (f e)≠0 then c (f b) (f e)else d (g b) (g e))<0->(if c (f a) (f e)≠0 then c (f a) (f e)else d (g a) (g e))<0;by_cases h1:c (f a) (f b)=0
  .have e1:=(hc.zero _ _).1 h1;rw[if_neg (λh'=>h' h1),e1];by_cases h2:c (f b) (f e)=0
   .rw [if_neg (λh'=>h' h2),if_neg (λh'=>h' h2)];exact hd.trans _ _ _
   .rw [if_pos h2,if_pos h2];exact λ_ h=>h
  .rw [if_pos h1];by_cases h2:c (f b) (f e)=0
   .have e2:=(hc.zero _ _).1 h2;rw[if_neg (λh'=>h' h2),<-e2,if_pos h1];exact λh _=>h
   .rw [if_pos h2];intro h3 h4;have:=hc.trans _ _ _ h3 h4;rw[if_pos (by omega)];exact this
def kx(x y:Xb):Int:=if JD x y then -1 else if x=y then 0 else 1
theorem JO:Law3 kx:=by
 have irr:=jkq;have asy:∀x y,JD x y=true->JD y x=true->False:=λx y h1 h2=>by
  rw[jfK,decide_eq_true_eq]at h1 h2;exact absurd (List.lt_trans h1 h2) (List.lt_irrefl _)
 have tot:∀x y,x=y\/JD x y=true\/JD y x=true:=λx y=>by
  rw[jfK,jfK,decide_eq_true_eq,decide_eq_true_eq];rcases Classical.em (x<y)with h|h
  .exact Or.inr (Or.inl h)
  rcases Classical.em (y<x)with h'|h'
  .exact Or.inr (Or.inr h')
  .exact Or.inl (List.le_antisymm (List.not_lt.1 h') (List.not_lt.1 h))
 have tr:∀x y z,JD x y=true->JD y z=true->JD x z=true:=λx y z h1 h2=>by
  rw[jfK,decide_eq_true_eq]at *;exact List.lt_trans h1 h2
 have neg:∀x y,kx x y<0↔JD x y=true:=λx y=>by
  unfold kx;cases h:JD x y with
  |true=>simp
  |false=>
   rw[if_neg Bool.false_ne_true];split<;>simp
 refine⟨λa b=>?_,λa b=>?_,λa b d h1 h2=>(neg _ _).2 (tr _ _ _ ((neg _ _).1 h1) ((neg _ _).1 h2))⟩
 .unfold kx;cases h:JD a b with
  |true=>rw[if_pos rfl];exact⟨λh'=>by omega,λe=>by rw[e,irr]at h;cases h⟩
  |false=>
   rw[if_neg Bool.false_ne_true];by_cases e:a=b
   .rw [if_pos e];exact⟨λ_=>e,λ_=>rfl⟩
   .rw [if_neg e];exact⟨λh'=>by omega,λh'=>absurd h' e⟩
 .unfold kx;rcases tot a b with e|e|e
  .subst e;rw[irr,if_neg Bool.false_ne_true,if_pos rfl];rfl
  .have h2:JD b a=false:=by
    cases h:JD b a with
    |false=>rfl
    |true=>exact(asy _ _ e h).elim
   have hne:¬b=a:=λh=>by rw[h,irr]at e;cases e
   rw[e,h2,if_neg Bool.false_ne_true,if_neg hne,if_pos rfl];rfl
  .have h2:JD a b=false:=by
    cases h:JD a b with
    |false=>rfl
    |true=>exact(asy _ _ e h).elim
   have hne:¬a=b:=λh=>by rw[h,irr]at e;cases e
   rw[e,h2,if_neg Bool.false_ne_true,if_neg hne,if_pos rfl]
def jZ(x y:Nat):Int:=if x<y then -1 else if y<x then 1 else 0
theorem KT:Law3 jZ:=by
 refine⟨λa b=>?_,λa b=>?_,λa b d=>?_⟩<;>unfold jZ
 .split
  .omega
  .split<;>omega
 .split<;>split<;>(try split)<;>omega
 .intro h1 h2;by_cases h:a<b
  .by_cases h3:b<d
   .rw [if_pos (by omega)];omega
   .rw [if_neg h3]at h2;split at h2<;>omega
  .rw [if_neg h]at h1;split at h1<;>omega
def vF(n:Xb):Nat:=if jE n then 0 else 1
abbrev Key:=Nat×(Xb×Nat)
def cK(x y:Key):Int:=if jZ x.1 y.1≠0 then jZ x.1 y.1 else if kx x.2.1 y.2.1≠0 then kx x.2.1 y.2.1 else jZ x.2.2 y.2.2
theorem KR:Law3 cK:=by
 have h2:Law3 λx y:Xb×Nat=>if kx x.1 y.1≠0 then kx x.1 y.1 else jZ x.2 y.2:=jrK (f:=Prod.fst) (g:=Prod.snd) JO KT λx y h1 h2=>Prod.ext h1 h2;exact jrK (f:=Prod.fst) (g:=Prod.snd) KT h2 λx y h1 h2=>Prod.ext h1 h2
def qg(t:T):Key:=(vF t.name,(t.name,t.args.length))
mutual
def zt(a b:T):Int:=
 match a with
 |.mk n us=>if cK (qg (.mk n us)) (qg b)≠0 then cK (qg (.mk n us)) (qg b)else kQ us b.args
termination_by structural a
def kQ(xs bs:Xg):Int:=
 match xs with
 | []=>0
 |a::xs=>(match bs with| []=>0|b::bs=>if zt a b≠0 then zt a b else kQ xs bs)
termination_by structural xs
end
theorem Zt(a b:T):zt a b=if cK (qg a) (qg b)≠0 then cK (qg a) (qg b)else kQ a.args b.args:=by cases a;rfl
theorem jfc{a b:T}(h:qg a=qg b):a.name=b.name/\a.args.length=b.args.length:=by
 unfold qg at h;simp only[Prod.mk.injEq]at h;exact h.2
theorem jsx{a b:T}(h1:a.name=b.name)(h2:a.args=b.args):a=b:=by
 cases a;cases b;simp only[T.name,T.args]at h1 h2;rw[h1,h2]
theorem jq4:∀{xs bs:Xg},(∀u∈xs,∀v,zt u v=0↔u=v)->xs.length=bs.length->(kQ xs bs=0↔xs=bs)
 | [],[],_,_=>by simp[kQ]
 | [],_::_,_,h=>by cases h
 |_::_,[],_,h=>by cases h
 |a::xs,b::bs,h,hl=>by
  rw[kQ];have ih:=jq4 (xs:=xs) (bs:=bs) (λu hu=>h u (by simp[hu])) (Nat.succ.inj hl);by_cases h0:zt a b=0
  .rw [if_neg (λh'=>h' h0),ih,(h a (by simp) b).1 h0];simp
  .rw [if_pos h0];exact⟨λh'=>absurd h' h0,λe=>by rw[List.cons.injEq]at e;exact(h a (by simp) b).2 e.1⟩
theorem jqp:∀{xs bs:Xg},(∀u∈xs,∀v,zt v u = -(zt u v))->xs.length=bs.length->kQ bs xs = -(kQ xs bs)
 | [],[],_,_=>by simp[kQ]
 | [],_::_,_,h=>by cases h
 |_::_,[],_,h=>by cases h
 |a::xs,b::bs,h,hl=>by
  rw[kQ,kQ,h a (by simp) b,jqp (xs:=xs) (bs:=bs) (λu hu=>h u (by simp[hu])) (Nat.succ.inj hl)];by_cases h0:zt a b=0
  .rw [if_neg (by omega),if_neg (by omega)]
  .rw [if_pos (by omega),if_pos (by omega)]
theorem jod(z:∀u v:T,zt u v=0↔u=v):∀{xs bs ds:Xg},(∀u∈xs,∀v w,zt u v<0->zt v w<0->zt u w<0)->xs.length=bs.length->bs.length=ds.length->kQ xs bs<0->kQ bs ds<0->kQ xs ds<0
 | [],_,_,_,_,_,h1,_=>by simp[kQ]at h1
 |a::xs,[],_,_,h,_,_,_=>by cases h
 |a::xs,b::bs,[],_,_,h,_,_=>by cases h
 |a::xs,b::bs,d::ds,h,hl,hl2,h1,h2=>by
  rw[kQ]at h1 h2⊢;by_cases c1:zt a b=0
  .have e1:=(z a b).1 c1;rw[if_neg (λh'=>h' c1)]at h1;rw[e1];by_cases c2:zt b d=0
   .rw [if_neg (λh'=>h' c2)]at h2;rw[if_neg (λh'=>h' c2)];exact jod z (λu hu=>h u (by simp[hu])) (Nat.succ.inj hl) (Nat.succ.inj hl2) h1 h2
   .rw [if_pos c2]at h2;rw[if_pos c2];exact h2
  .rw [if_pos c1]at h1;by_cases c2:zt b d=0
   .rw [<-(z b d).1 c2,if_pos c1];exact h1
   .rw [if_pos c2]at h2;have:=h a (by simp) b d h1 h2;rw[if_pos (by omega)];exact this
theorem jmz:Law3 zt:=by
 have z:∀a b:T,zt a b=0↔a=b:=by
  refine T.ind λa ih b=>?_;rw[Zt];by_cases h:cK (qg a) (qg b)=0
  .have hk:=(KR.zero _ _).1 h;obtain⟨h1,h2⟩:=jfc hk;rw[if_neg (λh'=>h' h),jq4 ih h2];exact⟨λe=>jsx h1 e,λe=>by rw[e]⟩
  .rw [if_pos h];exact⟨λh'=>absurd h' h,λe=>by rw[e]at h;exact absurd ((KR.zero _ _).2 rfl) h⟩
 refine⟨z,?_,?_⟩
 .refine T.ind λa ih b=>?_;rw[Zt,Zt a b,KR.flip (qg a) (qg b)];by_cases h:cK (qg a) (qg b)=0
  .obtain ⟨_,h2⟩:=jfc ((KR.zero _ _).1 h);rw[if_neg (by omega),if_neg (by omega),jqp ih h2]
  .rw [if_pos (by omega),if_pos (by omega)]
 .refine T.ind λa ih b d h1 h2=>?_;rw[Zt]at h1 h2⊢;by_cases c1:cK (qg a) (qg b)=0
  .have e1:=(KR.zero _ _).1 c1;rw[if_neg (λh'=>h' c1)]at h1;rw[e1];by_cases c2:cK (qg b) (qg d)=0
   .have e2:=(KR.zero _ _).1 c2;rw[if_neg (λh'=>h' c2)]at h2;rw[if_neg (λh'=>h' c2)];exact jod z ih (jfc e1).2 (jfc e2).2 h1 h2
   .rw [if_pos c2]at h2;rw[if_pos c2];exact h2
  .rw [if_pos c1]at h1;by_cases c2:cK (qg b) (qg d)=0
   .rw [<-(KR.zero _ _).1 c2,if_pos c1];exact h1
   .rw [if_pos c2]at h2;have:=KR.trans _ _ _ h1 h2;rw[if_pos (by omega)];exact this
def upN:Xb->Bool
 | []=>false
 |c::_=>upc c
mutual
def val(M:Xb->Xi->Int)(e:Xb->Int):T->Int
 |.mk n us=>if us.isEmpty && upN n then e n else M n (jt3 M e us)
def jt3(M:Xb->Xi->Int)(e:Xb->Int):Xg->Xi
 | []=>[]
 |t::ts=>val M e t::jt3 M e ts
end
section
variable{M:Xb->Xi->Int}
def Ext(m m':kI):Prop:=∀x r,look m x=some r->look m' x=some r
theorem Ext.refl(m:kI):Ext m m:=λ_ _ h=>h
theorem Ext.trans{a b c:kI}(h:Ext a b)(h':Ext b c):Ext a c:=λx r hx=>h' x r (h x r hx)
variable{good:Int->Prop}
def jvY(M:Xb->Xi->Int)(good:Int->Prop)(rs:Xg):Prop:=∀r∈rs,∀e:Xb->Int,(∀x,good (e x))->val M e (jit r)=val M e (jiU r)
end
def dec(n:Nat):Nat->Nat->Xf
 |0,_=>[]
 |l+1,k=>k % n::dec n l (k / n)
def enc(n:Nat):Xf->Nat
 | []=>0
 |v::vs=>v+n*enc n vs
def vnA(l:Xa)(n:Xb):Xa:=if l.contains n then l else l++[n]
mutual
def vn(l:Xa):T->Xa
 |.mk n us=>if us.isEmpty && upN n then vnA l n else vnL l us
def vnL(l:Xa):Xg->Xa
 | []=>l
 |t::ts=>vnL (vn l t) ts
end
def VIn(S:Xa)(t:T):Prop:=∀x∈jaC t,x∈S
abbrev Lt:=Bool×T
def fl(b:Bool):Nat:=if b then 1 else 0
def cmpL(a b:Lt):Int:=if zt a.2 b.2≠0 then zt a.2 b.2 else jZ (fl a.1) (fl b.1)
theorem KS:Law3 cmpL:=jrK (f:=Prod.snd) (g:=λl:Lt=>fl l.1) jmz KT λx y h1 h2=>by
 obtain⟨p,t⟩:=x;obtain⟨q,u⟩:=y;have h1:t=u:=h1;have h2:fl p=fl q:=h2;subst h1;cases p<;>cases q<;>first|rfl|(simp[fl]at h2)
abbrev kA:=List Lt
def jf7:kA->Bool
 |a::b::l=>decide (cmpL a b<0) && jf7 (b::l)
 |_=>true
theorem jf8:∀c:kA,jf7 c=true↔Asc cmpL c
 | []=>by simp[jf7,Asc]
 | [a]=>by simp[jf7,Asc]
 |a::b::l=>by
  rw[jf7,Bool.and_eq_true,decide_eq_true_eq,jf8 (b::l)];unfold Asc;constructor
  .rintro ⟨h1,h2⟩;refine List.pairwise_cons.2 ⟨λx hx=>?_,h2⟩;rcases List.mem_cons.1 hx with e|e
   .rw [e];exact h1
   .exact KS.trans a b x h1 ((List.pairwise_cons.1 h2).1 x e)
  .intro h;exact⟨(List.pairwise_cons.1 h).1 b (by simp),(List.pairwise_cons.1 h).2⟩
mutual
def jcp(l:Xa):T->Xa
 |.mk n us=>if jE n then vnA l n else jcn l us
def jcn(l:Xa):Xg->Xa
 | []=>l
 |t::ts=>jcn (jcp l t) ts
end
theorem jpz(l:Xa)(t:T):jcp l t=if jE t.name then vnA l t.name else jcn l t.args:=by cases t;rfl
def Kl(c:kA):Xa:=c.foldl (λl x=>jcp l x.2) []
def jnd(p:UInt8)(i:Nat):Xb:=p::Lib.decDigits i
def jjU(c:kA):Bool:=decide (Kl c=(List.range (Kl c).length).map (jnd 88))
mutual
def KG(f:Xb->Xb):T->T
 |.mk n us=>if jE n then .mk (f n) []else .mk n (y8 f us)
def y8(f:Xb->Xb):Xg->Xg
 | []=>[]
 |t::ts=>KG f t::y8 f ts
end
theorem jhn(f:Xb->Xb):∀ts:Xg,y8 f ts=ts.map (KG f)
 | []=>rfl
 |t::ts=>by rw[y8,jhn f ts,List.map_cons]
theorem jfH(f:Xb->Xb)(t:T):KG f t=if jE t.name then .mk (f t.name) []else .mk t.name (t.args.map (KG f)):=by
 cases t;rw[KG,jhn];rfl
def jbx(p:UInt8)(l:Xa)(n:Xb):Xb:=match l.findIdx? (λx=>decide (x=n))with|some i=>jnd p i|none=>n
def renC(p:UInt8)(c:kA):kA:=KC cmpL (c.map λl=>(l.1,KG (jbx p (Kl c)) l.2))
def normF:Nat->kA->kA
 |0,c=>c
 |k+1,c=>if jjU c then c else normF k (renC 88 c)
def normC(c:kA):kA:=normF 10 c
theorem jdG(t:T)(h:zy t=true\/t.name=[61]):G 122 [tm t]=some (vb (jE t.name),[]):=by
 rcases h with h|h
 .exact jmR t h
 .have e1:=qY 61;have hx:jT (sv t.name) (vi 0)=some (vy ((61:UInt8).toNat:Int)):=by rw[h];exact zh
  have hv:jE t.name=upc 61:=by rw[h];decide
  rw[js7,hv];simp only[jk,hx,e1]
theorem Kc(x y:Xb):kx x y=if JD x y then -1 else if JD y x then 1 else 0:=by
 have hf:=JO.flip x y;cases h1:JD x y with
 |true=>unfold kx;rw[h1];rfl
 |false=>
  rw[if_neg Bool.false_ne_true];cases h2:JD y x with
  |true=>
   have:kx y x = -1:=by unfold kx;rw[h2,if_pos rfl]
   rw[if_pos rfl];omega
  |false=>
   rw[if_neg Bool.false_ne_true];have a1:kx x y=0\/kx x y=1:=by
    unfold kx;rw[h1,if_neg Bool.false_ne_true];split<;>simp
   have a2:kx y x=0\/kx y x=1:=by
    unfold kx;rw[h2,if_neg Bool.false_ne_true];split<;>simp
   omega
theorem jd0(b:Bool)(x y:Xb):jx .gtr b (sv x) (sv y)=some (vb (JD y x)):=by
 show some (vb (!(JD x y || decide (x=y))))=_;by_cases e:x=y
 .subst e;rw[jkq,decide_eq_true rfl];rfl
 have h1:=Kc x y;have h3:=JO.flip x y;have h4:=Kc y x;rw[decide_eq_false e,Bool.or_false];cases a:JD x y<;>cases c:JD y x<;>rw[a,c]at h1 h4
 .exact absurd ((JO.zero x y).1 h1) e
 .rfl
 .rfl
 .have h1:kx x y = -1:=h1;have h4:kx y x = -1:=h4;omega
theorem jgg(x y:Xb):G 123 [sv x,sv y]=some (vi (kx x y),[]):=by
 have n1:G 159 [sv x]=some (vb false,[]):=by rw[js9];simp only[jk]
 have n2:G 159 [sv y]=some (vb false,[]):=by rw[js9];simp only[jk]
 rw[ju4,Kc];cases h1:JD x y<;>cases h2:JD y x<;>simp only[jk,n1,n2,jd0,h1,h2]
theorem jag(x y:Nat):G 81 [vi (x:Nat),vi (y:Nat)]=some (vi (jZ x y),[]):=by
 have n1:G 125 [vi (x:Nat)]=some (vb false,[]):=by rw[js8];simp only[jk]
 have n2:G 125 [vi (y:Nat)]=some (vb false,[]):=by rw[js8];simp only[jk]
 rw[g81];unfold jZ;by_cases h1:x<y
 .have h1':((x:Nat):Int)<((y:Nat):Int):=by omega
  rw[if_pos h1];simp only[jk,n1,n2,h1']
 .have h1':¬((x:Nat):Int)<((y:Nat):Int):=by omega
  rw[if_neg h1];by_cases h2:y<x
  .have h2':((y:Nat):Int)<((x:Nat):Int):=by omega
   rw[if_pos h2];simp only[jk,n1,n2,h1',h2']
  .have h2':¬((y:Nat):Int)<((x:Nat):Int):=by omega
   rw[if_neg h2];simp only[jk,n1,n2,h1',h2']
theorem jnl(a b:Int):G 79 [.sl 1 [[vi a],[vi b]]]=some (vi (if a≠0 then a else b),[]):=by
 have i0:js 1 (.sl 1 [[vi a],[vi b]]) (vi 0)=some (.elt [vi a] 0):=rfl;have i1:js 1 (.sl 1 [[vi a],[vi b]]) (vi 1)=some (.elt [vi b] 0):=rfl;have ll:K8 (.sl 1 [[vi a],[vi b]])=some (vi 2):=rfl;have c0:jx .add false (vi 0) (vi 1)=some (vi 1):=by rw[Ja,ko (by decide) (by decide)];rfl
 have c1:jx .add false (vi 1) (vi 1)=some (vi 2):=by rw[Ja,ko (by decide) (by decide)];rfl
 have z0:(0:Int)<2:=by decide
 have z1:(1:Int)<2:=by decide
 have z2:¬(2:Int)<2:=by decide
 generalize A.sl 1 [[vi a],[vi b]]=X at *;have k2:jfY (vi 0) X (vi 2) (vi 2)=some (vi 0,[]):=by rw[jm4];simp only[jk,z2]
 have k1:jfY (vi 0) X (vi 2) (vi 1)=some (vi b,[]):=by
  rw[jm4];by_cases hb:b=0
  .simp only[jk,z1,i1,hb,c1,k2]
  .simp only[jk,z1,i1,hb]
 rw[g79];simp only[cev];rw[ll,Option.bind_some,jm4];by_cases ha:a=0
 .rw [if_neg (λh=>h ha)];simp only[jk,z0,i0,ha,c0,k1]
 .rw [if_pos ha];simp only[jk,z0,i0,ha]
def Rx'(t:T):Prop:=zy t=true\/(t.name=[61]/\ ∀u∈t.args,zy u=true)
theorem Rx'.args{t:T}(h:Rx' t):∀u∈t.args,Rx' u:=λu hu=>Or.inl (by
 rcases h with h|h
 .exact y7 h u hu
 .exact h.2 u hu)
theorem QK(ts us:Xg)(hl:ts.length<=1048576)(hlen:ts.length=us.length)(ih:∀t∈ts,∀u∈us,G 80 [tm t,tm u]=some (vi (zt t u),[])) :
  ∀i,i<=ts.length->jeG (zR ts) (zR us) (.fn 80 []) (zR ts) (vi (ts.length:Nat)) (vi (i:Nat))=some (vi (kQ (ts.drop i) (us.drop i)),[]):=by
 refine upto ?_ ?_
 .rw [jmY,List.drop_length,kQ];simp only[jk,hlen]
 .intro i hi ih';have hlt:(i:Int)<((ts.length:Nat):Int):=by omega
  have hi2:i<us.length:=by omega
  have hge:¬((us.length:Nat):Int)<=(i:Int):=by omega
  have h5:=j6 hi (by show ts.length<=9223372036854775807;omega)
  have e1:=ih ts[i] (List.getElem_mem _) us[i] (List.getElem_mem _);rw[jmY,jL hi,jL hi2,kQ];by_cases hc:zt ts[i] us[i]=0
  .rw [if_neg (λh=>h hc)];rw[hc]at e1;simp only[jk,hlt,jf hi,jf hi2,jp,hge,YP (f:=80) rfl,List.append_nil,e1,h5,ih']
  .rw [if_pos hc];generalize zt ts[i] us[i]=c at *;simp only[jk,hlt,jf hi,jf hi2,jp,hge,YP (f:=80) rfl,List.append_nil,e1,hc]
theorem jaK:∀a:T,Rx' a->Tz a-> ∀b:T,Rx' b->Tz b->G 80 [tm a,tm b]=some (vi (zt a b),[]):=by
 refine T.ind λa ih ha za b hb zb=>?_;have va:=jdG a (ha.imp id λh=>h.1);have vb':=jdG b (hb.imp id λh=>h.1);have hz:=za;unfold Tz at hz;rw[kU]at hz;have e1:=jgg a.name b.name;have e2:=jag a.args.length b.args.length;have e3:=jnl (kx a.name b.name) (jZ a.args.length b.args.length);have e4:a.args.length=b.args.length->G 124 [zR a.args,zR b.args,.fn 80 []]=some (vi (kQ a.args b.args),[]):=λhlen=>by
  have key:=QK a.args b.args (by omega) hlen (λt ht u hu=>ih t ht (ha.args t ht) (za.args t ht) u (hb.args u hu) (zb.args u hu)) 0 (Nat.zero_le _);simp only[Int.natCast_zero,List.drop_zero]at key;rw[ju5];simp only[jk,key]
 rw[g80,Zt];unfold cK qg vF;cases h1:jE a.name<;>cases h2:jE b.name<;>rw[h1]at va<;>rw[h2]at vb'
 .show _=some (vi (if(if jZ 1 1≠0 then jZ 1 1 else if kx a.name b.name≠0 then kx a.name b.name else jZ a.args.length b.args.length)≠0 then(if jZ 1 1≠0 then jZ 1 1 else if kx a.name b.name≠0 then kx a.name b.name else jZ a.args.length b.args.length)else kQ a.args b.args),[]);rw[if_neg (show ¬jZ 1 1≠0 by decide)];by_cases hz0:(if kx a.name b.name≠0 then kx a.name b.name else jZ a.args.length b.args.length)=0
  .have hlen:a.args.length=b.args.length:=by
    split at hz0
    .rename_i h;exact absurd hz0 h
    .exact (KT.zero _ _).1 hz0
   rw[if_neg (λh=>h hz0)];rw[hz0]at e3;simp only[jk,va,vb',e1,e2,e3,e4 hlen]
  .rw [if_pos hz0];generalize (if kx a.name b.name≠0 then kx a.name b.name else jZ a.args.length b.args.length)=c at *;simp only[jk,va,vb',e1,e2,e3,hz0]
 .have:(if(if jZ 1 0≠0 then jZ 1 0 else if kx a.name b.name≠0 then kx a.name b.name else jZ a.args.length b.args.length)≠0 then(if jZ 1 0≠0 then jZ 1 0 else if kx a.name b.name≠0 then kx a.name b.name else jZ a.args.length b.args.length)else kQ a.args b.args)=1:=by
   rw[if_pos (show jZ 1 0≠0 by decide),if_pos (show jZ 1 0≠0 by decide)];rfl
  show _=some (vi (if(if jZ 1 0≠0 then jZ 1 0 else if kx a.name b.name≠0 then kx a.name b.name else jZ a.args.length b.args.length)≠0 then(if jZ 1 0≠0 then jZ 1 0 else if kx a.name b.name≠0 then kx a.name b.name else jZ a.args.length b.args.length)else kQ a.args b.args),[]);rw[this];simp only[jk,va,vb']
 .have:(if(if jZ 0 1≠0 then jZ 0 1 else if kx a.name b.name≠0 then kx a.name b.name else jZ a.args.length b.args.length)≠0 then(if jZ 0 1≠0 then jZ 0 1 else if kx a.name b.name≠0 then kx a.name b.name else jZ a.args.length b.args.length)else kQ a.args b.args) = -1:=by
   rw[if_pos (show jZ 0 1≠0 by decide),if_pos (show jZ 0 1≠0 by decide)];rfl
  show _=some (vi (if(if jZ 0 1≠0 then jZ 0 1 else if kx a.name b.name≠0 then kx a.name b.name else jZ a.args.length b.args.length)≠0 then(if jZ 0 1≠0 then jZ 0 1 else if kx a.name b.name≠0 then kx a.name b.name else jZ a.args.length b.args.length)else kQ a.args b.args),[]);rw[this];simp only[jk,va,vb']
 .show _=some (vi (if(if jZ 0 0≠0 then jZ 0 0 else if kx a.name b.name≠0 then kx a.name b.name else jZ a.args.length b.args.length)≠0 then(if jZ 0 0≠0 then jZ 0 0 else if kx a.name b.name≠0 then kx a.name b.name else jZ a.args.length b.args.length)else kQ a.args b.args),[]);rw[if_neg (show ¬jZ 0 0≠0 by decide)];by_cases hz0:(if kx a.name b.name≠0 then kx a.name b.name else jZ a.args.length b.args.length)=0
  .have hlen:a.args.length=b.args.length:=by
    split at hz0
    .rename_i h;exact absurd hz0 h
    .exact (KT.zero _ _).1 hz0
   rw[if_neg (λh=>h hz0)];rw[hz0]at e3;simp only[jk,va,vb',e1,e2,e3,e4 hlen]
  .rw [if_pos hz0];generalize (if kx a.name b.name≠0 then kx a.name b.name else jZ a.args.length b.args.length)=c at *;simp only[jk,va,vb',e1,e2,e3,hz0]
theorem jkW(x y:Xb):G 138 [sv x,sv y]=some (vi (kx x y),[]):=by
 rw[jva,Kc];cases h1:JD x y<;>cases h2:JD y x<;>simp only[jk,jd0,h1,h2]
theorem jb8(n m:Xb)(ts us:Xg)(hl:ts.length<=1048576)(hlen:ts.length=us.length)(ih:∀t∈ts,∀u∈us,G 98 [tm t,tm u]=some (vi (zt t u),[])) :
  ∀i,i<=ts.length->jfZ (vi (i:Nat)) (sv n) (zR ts) (sv m) (zR us)=some (vi (kQ (ts.drop i) (us.drop i)),[]):=by
 refine upto ?_ ?_
 .rw [jqE,List.drop_length,kQ];simp only[jk]
 .intro i hi ih';have hlt:(i:Int)<((ts.length:Nat):Int):=by omega
  have hi2:i<us.length:=by omega
  have h5:=j6 hi (by show ts.length<=9223372036854775807;omega)
  have e1:=ih ts[i] (List.getElem_mem _) us[i] (List.getElem_mem _);rw[jqE,jL hi,jL hi2,kQ];by_cases hc:zt ts[i] us[i]=0
  .rw [if_neg (λh=>h hc)];rw[hc]at e1;simp only[jk,hlt,jf hi,jf hi2,jp,e1,h5,ih']
  .rw [if_pos hc];generalize zt ts[i] us[i]=c at *;simp only[jk,hlt,jf hi,jf hi2,jp,e1,hc]
theorem jh9(a b:T):zt a b=if jE a.name=true/\jE b.name=false then -1 else if jE a.name=false/\jE b.name=true then 1 else if ¬a.name=b.name then kx a.name b.name else if a.args.length<b.args.length then -1 else if b.args.length<a.args.length then 1 else kQ a.args b.args:=by
 rw[Zt];unfold cK qg vF;have hn:=JO.zero a.name b.name;have hzr:jZ 1 1=0/\jZ 0 0=0/\jZ 0 1 = -1/\jZ 1 0=1:=by decide
 obtain⟨z1,z2,z3,z4⟩:=hzr;have hz:jZ a.args.length b.args.length=if a.args.length<b.args.length then -1 else if b.args.length<a.args.length then 1 else 0:=rfl;cases h1:jE a.name<;>cases h2:jE b.name<;>simp only[Bool.false_eq_true,if_true,if_false,z1,z2,z3,z4,hz]
 all_goals have hs:=(JO.zero b.name b.name).2 rfl
 all_goals by_cases e:a.name=b.name
 all_goals by_cases l1:a.args.length<b.args.length
 all_goals by_cases l2:b.args.length<a.args.length
 all_goals first
  |(simp[e,hs,l1,l2];done)
  |(have ne:¬kx a.name b.name=0:=λh=>e (hn.1 h);simp only[ne_eq,e,ne,not_false_eq_true,not_true_eq_false,if_true,if_false,and_true,and_false,reduceCtorEq];done)
  |simp[l1,l2]
theorem jfg:∀a:T,Tz a-> ∀b:T,Tz b->G 98 [tm a,tm b]=some (vi (zt a b),[]):=by
 refine T.ind λa ih za b zb=>?_;have va:=jb9 a.name (((yg a).1 za.wf).1);have vb':=jb9 b.name (((yg b).1 zb.wf).1);have hz:=za;unfold Tz at hz;rw[kU]at hz;have e1:=jkW a.name b.name;have e4:a.args.length=b.args.length->jfZ (vi 0) (sv a.name) (zR a.args) (sv b.name) (zR b.args)=some (vi (kQ a.args b.args),[]):=λhlen=>by
  have key:=jb8 a.name b.name a.args b.args (by omega) hlen (λt ht u hu=>ih t ht (za.args t ht) u (zb.args u hu)) 0 (Nat.zero_le _);simp only[Int.natCast_zero,List.drop_zero]at key;exact key
 rw[g98,jh9];have main:∀p:Bool,G 136 [sv a.name]=some (vb p,[])->G 136 [sv b.name]=some (vb p,[])->_:=λp _ _=>trivial;clear main;cases h1:jE a.name<;>cases h2:jE b.name<;>rw[h1]at va<;>rw[h2]at vb'
 all_goals by_cases en:a.name=b.name
 all_goals try (exfalso;rw[en,h2]at h1;cases h1;done)
 all_goals by_cases l1:a.args.length<b.args.length
 all_goals by_cases l2:b.args.length<a.args.length
 all_goals have l1':(((a.args.length:Nat):Int)<((b.args.length:Nat):Int))=(a.args.length<b.args.length):=propext (by omega)
 all_goals have l2':(((b.args.length:Nat):Int)<((a.args.length:Nat):Int))=(b.args.length<a.args.length):=propext (by omega)
 all_goals first
  |(have e4:=e4 (by omega);rw[en]at e4;simp only[jk,vb',en,l1,l2,l1',l2',e4,and_true,and_false];done)
  |(simp only[jk,va,vb',e1,en,l1,l2,l1',l2',and_true,and_false];done)
  |(simp only[jk,va,vb',e1,en,l1,l2,l1',l2',and_true,true_and,and_false,false_and])
abbrev kq(l:Lt):Xd:=[vb l.1,sv l.2.name,.sl 2 (l.2.args.map jl)]
abbrev ltm(l:Lt):A:= .agg [vb l.1,sv l.2.name,.sl 2 (l.2.args.map jl)]
theorem jjK(b:Bool):G 82 [vb b]=some (vi (fl b:Nat),[]):=by
 rw[g82];cases b<;>simp only[jk]<;>rfl
theorem Z7(a b:Lt)(ha:Rx' a.2)(za:Tz a.2)(hb:Rx' b.2)(zb:Tz b.2):G 49 [ltm a,ltm b]=some (vi (cmpL a b),[]):=by
 have e1:=jaK a.2 ha za b.2 hb zb;have e2:=jjK a.1;have e3:=jjK b.1;have e4:=jag (fl a.1) (fl b.1);have e5:=jnl (zt a.2 b.2) (jZ (fl a.1) (fl b.1));have e6:cmpL a b=if zt a.2 b.2≠0 then zt a.2 b.2 else jZ (fl a.1) (fl b.1):=rfl;rw[g49,e6];generalize (if zt a.2 b.2≠0 then zt a.2 b.2 else jZ (fl a.1) (fl b.1))=c at *;generalize jZ (fl a.1) (fl b.1)=d at *;generalize zt a.2 b.2=f at *;simp only[jk,e1,e2,e3,e4,e5]
theorem Z2(a b:Lt)(za:Tz a.2)(zb:Tz b.2):G 56 [ltm a,ltm b]=some (vi (cmpL a b),[]):=by
 have e1:=jfg a.2 za b.2 zb;have e6:cmpL a b=if zt a.2 b.2≠0 then zt a.2 b.2 else jZ (fl a.1) (fl b.1):=rfl;rw[g56,e6];by_cases h:zt a.2 b.2=0
 .rw [if_neg (λh'=>h' h)];rw[h]at e1;obtain⟨p,t⟩:=a;obtain⟨q,u⟩:=b;have d1:jZ (fl false) (fl true) = -1:=by decide
  have d2:jZ (fl true) (fl false)=1:=by decide
  have d3:jZ (fl true) (fl true)=0:=by decide
  have d4:jZ (fl false) (fl false)=0:=by decide
  cases p<;>cases q<;>simp only[jk,e1,d1,d2,d3,d4]
 .rw [if_pos h];generalize zt a.2 b.2=c at *;simp only[jk,e1,h]
def jR(t:T):Bool:=if t.name=[61]then jeY t else zW t.name && j9 t
theorem ZD(t:T)(hw:twf t)(hs:tsz t<=1048576):G 55 [tm t]=some (vb (jR t),[]):=by
 unfold jR;by_cases he:t.name=[61]
 .rw [if_pos he];exact jip t hw hs he
 .have e1:=jao t.name ((yg t).1 hw).1;have e2:=jdP t hw hs;rw[if_neg he,g55];cases h:zW t.name<;>rw[h]at e1
  .simp only[jk,he,e1,Bool.false_and]
  .simp only[jk,he,e1,e2,Bool.true_and]
theorem jbY(t:T)(hw:twf t)(hs:tsz t<=1048576):G 78 [tm t]=some (vb (jR t),[]):=by
 unfold jR;by_cases he:t.name=[61]
 .rw [if_pos he];exact jaO t hw hs he
 .have e0:=z7 t;rw[decide_eq_false he]at e0;have e1:=jal t.name ((yg t).1 hw).1;have e2:=jbZ t hw hs;rw[if_neg he,g78];cases h:zW t.name<;>rw[h]at e1
  .simp only[jk,e0,e1,Bool.false_and]
  .simp only[jk,e0,e1,e2,Bool.true_and]
abbrev cm(c:kA):A:= .agg [.sl 3 (c.map kq)]
def kh(c:kA):Bool:=c.all (λl=>jR l.2) && (jf7 c && decide (c.length<=8))
theorem jjy{t:T}(h:jR t=true):Rx' t:=by
 unfold jR at h;by_cases he:t.name=[61]
 .rw [if_pos he]at h;unfold jeY at h;rw[Bool.and_eq_true,decide_eq_true_eq,Bool.and_eq_true,Bool.and_eq_true]at h;refine Or.inr ⟨he,λu hu=>?_⟩;obtain⟨n,us⟩:=t
  match us,h.1 with
  | [a,b],_=>
   have hu:u ∈ [a,b]:=hu;simp only[List.mem_cons,List.not_mem_nil,or_false]at hu;rcases hu with rfl|rfl
   .exact h.2.2.1
   .exact h.2.2.2
 .rw [if_neg he,Bool.and_eq_true]at h;have h2:=h.2;unfold j9 at h2;rw[Bool.and_eq_true]at h2;exact Or.inl h2.2
theorem Jq(l:Lt)(hz:Tz l.2):G 48 [ltm l]=some (vb (jR l.2),[]):=by
 have e:=jbY l.2 hz.wf hz;rw[g48];simp only[jk,e]
def KI:Option Lt->kA->Bool
 |_,[]=>true
 |none,l::r=>jR l.2 && KI (some l) r
 |some p,l::r=>jR l.2 && (decide (cmpL p l<0) && KI (some l) r)
theorem jev:∀(p:Lt)(c:kA),KI (some p) c=(c.all (λl=>jR l.2) && jf7 (p::c))
 |p,[]=>rfl
 |p,l::r=>by
  rw[KI,jev l r,List.all_cons,jf7];cases jR l.2<;>cases decide (cmpL p l<0)<;>simp
theorem jeu(c:kA):(KI none c && decide (c.length<=8))=kh c:=by
 unfold kh;cases c with
 |nil=>rfl
 |cons l r=>rw[KI,jev,List.all_cons];cases jR l.2<;>simp[Bool.and_assoc]
theorem ZG(l:Lt):kR 3 (.elt (kq l) 0)=some (ltm l):=rfl
theorem jhR(c:kA)(hl:c.length<=1048576)(hz:∀l∈c,Tz l.2):∀i,i<=c.length-> ∀p:Option Lt,(p=none↔i=0)->(∀q,p=some q->jR q.2=true/\ ∃h:i-1<c.length,c[i-1]=q)->
  jjo (.sl 3 (c.map kq)) (vi (c.length:Nat)) (vi (i:Nat)) (.sl 3 (c.map kq))=some (vb (KI p (c.drop i) && decide (c.length<=8)),[]):=by
 refine upto ?_ ?_
 .intro p _ _;have e:decide (((c.length:Nat):Int)<=8)=decide (c.length<=8):=by congr 1;exact propext (by omega)
  rw[jqv,List.drop_length,<-e];have:KI p []=true:=by cases p<;>rfl
  rw[this];simp only[jk,Bool.true_and]
 .intro i hi ih p hp hq;have hlt:(i:Int)<((c.length:Nat):Int):=by omega
  have h5:=j6 hi (by show c.length<=9223372036854775807;omega)
  have e1:=Jq c[i] (hz _ (List.getElem_mem hi));have ix:=jf (k:=3) (f:=kq) hi;have e1:G 48 [.agg [vb c[i].1,sv c[i].2.name,zR c[i].2.args]]=some (vb (jR c[i].2),[]):=e1;rw[jqv,jL hi];cases ha:jR c[i].2 with
  |false=>
   rw[ha]at e1;have:KI p (c[i]::c.drop (i+1))=false:=by cases p<;>rw[KI,ha]<;>rfl
   rw[this];simp only[jk,hlt,ix,ZG,e1,Bool.false_and]
  |true=>
   rw[ha]at e1;have ih1:=ih (some c[i]) (by simp) (λq hq=>by cases hq;exact⟨ha,by simpa using hi,rfl⟩);cases p with
   |none=>
    have h0:i=0:=hp.1 rfl;have hg:¬(0:Int)<(i:Int):=by omega
    rw[KI,ha,Bool.true_and,<-ih1];simp only[jk,hlt,ix,ZG,e1,hg,h5]
   |some q=>
    obtain⟨hqa,hq1,hq2⟩:=hq q rfl;have hi0:¬i=0:=λh=>by have:=hp.2 h;cases this
    have hg:(0:Int)<(i:Int):=by omega
    have c1:ck ((i:Int)-1)=some (vi ((i-1:Nat):Int)):=by rw[show(i:Int)-1=((i-1:Nat):Int) by omega,ko (by omega) (by omega)]
    have ix2:=jf (k:=3) (f:=kq) hq1;rw[hq2]at ix2;have hqz:Tz q.2:=by rw[<-hq2];exact hz _ (List.getElem_mem hq1)
    have e2:=Z7 q c[i] (jjy hqa) hqz (jjy ha) (hz _ (List.getElem_mem hi));have e2:G 49 [.agg [vb q.1,sv q.2.name,zR q.2.args],.agg [vb c[i].1,sv c[i].2.name,zR c[i].2.args]]=some (vi (cmpL q c[i]),[]):=e2;rw[KI,ha,Bool.true_and];by_cases hc:cmpL q c[i]<0
    .have hc':¬(0:Int)<=cmpL q c[i]:=by omega
     rw[decide_eq_true hc,Bool.true_and,<-ih1];generalize cmpL q c[i]=d at *;simp only[jk,hlt,ix,ZG,e1,hg,c1,ix2,e2,hc',h5]
    .have hc':(0:Int)<=cmpL q c[i]:=by omega
     rw[decide_eq_false hc];generalize cmpL q c[i]=d at *;simp only[jk,hlt,ix,ZG,e1,hg,c1,ix2,e2,hc',Bool.false_and]
theorem JQ(c:kA)(hl:c.length<=1048576)(hz:∀l∈c,Tz l.2):G 19 [cm c]=some (vb (kh c),[]):=by
 have key:=jhR c hl hz 0 (Nat.zero_le _) none (by simp) (λq h=>by cases h);rw[List.drop_zero,jeu]at key;simp only[Int.natCast_zero]at key;rw[g19];simp only[jk,key]
theorem jhS(c:kA)(hl:c.length<=1048576)(hz:∀l∈c,Tz l.2):∀i,i<=c.length-> ∀p:Option Lt,(p=none↔i=0)->(∀q,p=some q-> ∃h:i-1<c.length,c[i-1]=q)->
  jjq (vi (i:Nat)) (.sl 3 (c.map kq))=some (vb (KI p (c.drop i)),[]):=by
 refine upto ?_ ?_
 .intro p _ _;rw[jqx,List.drop_length];have:KI p []=true:=by cases p<;>rfl
  rw[this];simp only[jk]
 .intro i hi ih p hp hq;have hlt:(i:Int)<((c.length:Nat):Int):=by omega
  have h5:=j6 hi (by show c.length<=9223372036854775807;omega)
  have e1:=ZD c[i].2 (hz _ (List.getElem_mem hi)).wf (hz _ (List.getElem_mem hi));have ix:=jf (k:=3) (f:=kq) hi;have ad:jaT (.elt (kq c[i]) 0) 1=some (.elt (kq c[i]) 1):=rfl;have ld:kR 2 (.elt (kq c[i]) 1)=some (tm c[i].2):=rfl;rw[jqx,jL hi];cases ha:jR c[i].2 with
  |false=>
   rw[ha]at e1;have:KI p (c[i]::c.drop (i+1))=false:=by cases p<;>rw[KI,ha]<;>rfl
   rw[this];simp only[jk,hlt,ix,ad,ld,e1]
  |true=>
   rw[ha]at e1;have ih1:=ih (some c[i]) (by simp) (λq hq=>by cases hq;exact⟨by simpa using hi,rfl⟩);cases p with
   |none=>
    have h0:i=0:=hp.1 rfl;have hg:¬(0:Int)<(i:Int):=by omega
    rw[KI,ha,Bool.true_and,<-ih1];simp only[jk,hlt,ix,ad,ld,e1,hg,h5]
   |some q=>
    obtain⟨hq1,hq2⟩:=hq q rfl;have hi0:¬i=0:=λh=>by have:=hp.2 h;cases this
    have hg:(0:Int)<(i:Int):=by omega
    have c1:ck ((i:Int)-1)=some (vi ((i-1:Nat):Int)):=by rw[show(i:Int)-1=((i-1:Nat):Int) by omega,ko (by omega) (by omega)]
    have ix2:=jf (k:=3) (f:=kq) hq1;rw[hq2]at ix2;have hqz:Tz q.2:=by rw[<-hq2];exact hz _ (List.getElem_mem hq1)
    have e2:=Z2 q c[i] hqz (hz _ (List.getElem_mem hi));rw[KI,ha,Bool.true_and];by_cases hc:cmpL q c[i]<0
    .have hc':¬(0:Int)<=cmpL q c[i]:=by omega
     rw[decide_eq_true hc,Bool.true_and,<-ih1];generalize cmpL q c[i]=d at *;simp only[jk,hlt,ix,ad,ld,ZG,e1,hg,c1,ix2,e2,hc',h5]
    .have hc':(0:Int)<=cmpL q c[i]:=by omega
     rw[decide_eq_false hc];generalize cmpL q c[i]=d at *;simp only[jk,hlt,ix,ad,ld,ZG,e1,hg,c1,ix2,e2,hc',Bool.false_and]
theorem jdR(c:kA)(hl:c.length<=1048576)(hz:∀l∈c,Tz l.2):G 23 [cm c]=some (vb (kh c),[]):=by
 have key:=jhS c hl hz 0 (Nat.zero_le _) none (by simp) (λq h=>by cases h);rw[List.drop_zero]at key;simp only[Int.natCast_zero]at key;rw[g23,<-jeu];by_cases h8:c.length<=8
 .have h8':¬(8:Int)<((c.length:Nat):Int):=by omega
  rw[decide_eq_true h8,Bool.and_true];simp only[jk,h8',key]
 .have h8':(8:Int)<((c.length:Nat):Int):=by omega
  rw[decide_eq_false h8,Bool.and_false];simp only[jk,h8']
theorem jsg(l:Xa)(n:Xb):(vnA l n).length<=l.length+1:=by
 unfold vnA;split
 .omega
 .simp
theorem jpA:∀(t:T)(l:Xa),(jcp l t).length<=l.length+nodes t:=by
 refine T.ind λt ih l=>?_;have hn:=jM t;rw[jpz];split
 .have:=jsg l t.name;omega
 .have key:∀us:Xg,(∀u∈us,u∈t.args)-> ∀l:Xa,(jcn l us).length<=l.length+jA us:=by
   intro us;induction us with
   |nil=>intro _ l;simp[jcn,jA]
   |cons u us ih2=>
    intro hu l;have h1:=ih u (hu u (by simp)) l;have h2:=ih2 (λv hv=>hu v (by simp[hv])) (jcp l u);rw[jcn,jA];omega
  have:=key t.args (λ_ h=>h) l;omega
abbrev Eqs:=List (T×T)
def jrf:kI->Bool
 | []=>true
 | [_]=>true
 |p::q::s=>JD p.1 q.1 && jrf (q::s)
noncomputable def ql(s:kI):Bool:=decide (s.length<=12) && (jrf s && s.all λq=>jE q.1 && (j9 q.2 && !dq q.2.name q.1))
def jql(s u:kI):kI:=jr2 (s.map (λq=>(q.1,sub u q.2))++u.filter λq=>(look s q.1).isNone)
def jga(x y:T):Xb×T:=if jE x.name=false\/(jE y.name=true/\JD x.name y.name=true)then(y.name,x)else(x.name,y)
noncomputable def jtU(s:kI)(l r:T)(rest:Eqs):Option (kI×Eqs):=
 if kz (sub s l)=false\/kz (sub s r)=false then none
 else if dq (sub s l) (sub s r)then some (s,rest)
 else if jE (sub s l).name=true\/jE (sub s r).name=true then
  (if(jga (sub s l) (sub s r)).1∈jaC (jga (sub s l) (sub s r)).2\/ql [jga (sub s l) (sub s r)]=false\/ql (jql s [jga (sub s l) (sub s r)])=false then none else some (jql s [jga (sub s l) (sub s r)],rest))
 else if(sub s l).name=(sub s r).name/\(sub s l).args.length=(sub s r).args.length then some (s,(sub s l).args.zip (sub s r).args++rest)else none
noncomputable def jq2:Nat->kI->Eqs->Option (Option kI)
 |_,s,[]=>some (some s)
 |0,_,_::_=>none
 |k+1,s,p::rest=>(match jtU s p.1 p.2 rest with|none=>some none|some q=>jq2 k q.1 q.2)
def Exx(t:T):Prop:=(zy t=true\/(t.name=[61]/\t.args.length=2/\ ∀u∈t.args,zy u=true))/\nodes t<=31
def IdS(s:kI):Prop:=∀q∈s,∀x∈jaC q.2,look s x=none
def jwv(s:kI)(es:Eqs):Prop:=ql s=true/\IdS s/\ ∀p∈es,Exx p.1/\Exx p.2
theorem qF{s:kI}(h:ql s=true):s.length<=12/\jrf s=true/\ ∀q∈s,jE q.1=true/\j9 q.2=true/\q.2.name≠q.1:=by
 unfold ql at h;rw[Bool.and_eq_true,decide_eq_true_eq,Bool.and_eq_true,List.all_eq_true]at h;refine⟨h.1,h.2.1,λq hq=>?_⟩;have:=h.2.2 q hq;rw[Bool.and_eq_true,Bool.and_eq_true,Bool.not_eq_true']at this;exact⟨this.1,this.2.1,λe=>by rw[e,jeX]at this;exact absurd this.2.2 (by decide)⟩
theorem Q5{t:T}(h:j9 t=true):zy t=true:=by
 unfold j9 at h;rw[Bool.and_eq_true]at h;exact h.2
def mz(s:kI):Eqs->Nat
 | []=>0
 |p::r=>nodes (sub s p.1)+nodes (sub s p.2)+mz s r
theorem Exx.sub{s:kI}(hs:ql s=true){t:T}(h:Exx t):zy (sub s t)=true\/((sub s t).name=[61]/\(sub s t).args.length=2/\ ∀u∈(sub s t).args,zy u=true):=by
 obtain⟨_,_,hv⟩:=qF hs;have ho:∀q∈s,zy q.2=true:=λq hq=>(Q5 (hv q hq).2.1);rcases h.1 with h|⟨h1,h2,h3⟩
 .exact Or.inl (Q0 ho t h)
 .have hvn:jE t.name=false:=by rw[h1];decide
  right;rw[jbe hvn];refine⟨h1,by show(t.args.map _).length=2;rw[List.length_map,h2],λu hu=>?_⟩;obtain⟨a,ha,rfl⟩:=List.mem_map.1 hu;exact Q0 ho a (h3 a ha)
theorem jaA{t:T}(h:kz t=true):nodes t<=30:=by
 simp only[kz,Bool.and_eq_true,decide_eq_true_eq]at h;exact h.1
def Bx(t:T):Prop:=(t.name=[61]/\t.args.length=2/\ ∀u∈t.args,zy u=true)\/(zW t.name=true/\zy t=true)
theorem Bx.rx{t:T}(h:Bx t):Rx' t:=h.elim (λh=>Or.inr ⟨h.1,h.2.2⟩) λh=>Or.inl h.2
theorem Bx.ax{t:T}(h:Bx t):zy t=true\/(t.name=[61]/\t.args.length=2/\ ∀u∈t.args,zy u=true):=h.elim Or.inr λh=>Or.inl h.2
theorem Bx.args{t:T}(h:Bx t):∀u∈t.args,zy u=true:=h.elim (λh=>h.2.2) λh=>y7 h.2
theorem jcZ{n:Xb}(h:zW n=true):jE n=false:=by
 cases hv:jE n with
 |false=>rfl
 |true=>rw[ji7 hv]at h;cases h
theorem Bx.nv{t:T}(h:Bx t):jE t.name=false:=h.elim (λh=>by rw[h.1];decide) λh=>jcZ h.1
theorem KO{t:T}(h:t.args.length=2):t.args=[ym t,qe t]:=by
 obtain⟨n,us⟩:=t
 match us,h with
 | [a,b],_=>rfl
theorem KQ{t:T} :jR t=true↔Bx t/\kz t=true:=by
 unfold jR Bx;by_cases he:t.name=[61]
 .rw [if_pos he];unfold jeY;rw[Bool.and_eq_true,Bool.and_eq_true,Bool.and_eq_true,decide_eq_true_eq];constructor
  .rintro ⟨h1,h2,h3,h4⟩;refine⟨Or.inl ⟨he,h1,λu hu=>?_⟩,h2⟩;rw[KO h1]at hu;simp only[List.mem_cons,List.not_mem_nil,or_false]at hu;rcases hu with rfl|rfl
   .exact h3
   .exact h4
  .rintro ⟨h|h,h2⟩
   .obtain ⟨_,_,ma,mb⟩:=QH h.2.1;exact⟨h.2.1,h2,h.2.2 _ ma,h.2.2 _ mb⟩
   .rw [he]at h;exact absurd h.1 (by decide)
 .rw [if_neg he];unfold j9;rw[Bool.and_eq_true,Bool.and_eq_true];constructor
  .rintro ⟨h1,h2,h3⟩;exact⟨Or.inr ⟨h1,h3⟩,h2⟩
  .rintro ⟨h|h,h2⟩
   .exact absurd h.1 he
   .exact ⟨h.1,h2,h.2⟩
theorem Bx.atom{t:T}(h:Bx t):jR t=kz t:=by
 cases hs:kz t with
 |true=>exact KQ.2 ⟨h,hs⟩
 |false=>
  cases ha:jR t with
  |false=>rfl
  |true=>rw[(KQ.1 ha).2]at hs;cases hs
theorem Bx.tsz{t:T}(h:Bx t):tsz t<=10*nodes t:=by
 rcases h with h|h
 .rw [kU,jM,h.1,h.2.1];have:=jj8 h.2.2;simp only[List.length_cons,List.length_nil];omega
 .exact K6 t h.2
theorem Bx.tz{t:T}(h:Bx t)(hn:nodes t<=100000):Tz t:=by have:=h.tsz;unfold Tz;omega
theorem Bx.sub{s:kI}(hs:ql s=true){t:T}(h:Bx t):Bx (sub s t):=by
 obtain⟨_,_,hv⟩:=qF hs;have ho:∀q∈s,zy q.2=true:=λq hq=>Q5 (hv q hq).2.1;have hn:=h.nv;rcases h with h|h
 .left;rw[jcV hn,jcU hn,List.length_map];refine⟨h.1,h.2.1,λu hu=>?_⟩;obtain⟨a,ha,rfl⟩:=List.mem_map.1 hu;exact Q0 ho a (h.2.2 a ha)
 .right;rw[jcV hn];exact⟨h.1,Q0 ho t h.2⟩
theorem jfV{s:kI}(hs:ql s=true):∀q∈s,nodes q.2<=30:=λq hq=>by
 have:=((qF hs).2.2 q hq).2.1;unfold j9 at this;rw[Bool.and_eq_true]at this;exact jaA this.1
theorem jew{s:kI}(hs:ql s=true):∀q∈s,zy q.2=true:=λq hq=>Q5 ((qF hs).2.2 q hq).2.1
mutual
theorem jd9(f:Xb->Xb):∀t:T,nodes (KG f t)<=nodes t
 |.mk n us=>by
  rw[KG];split
  .have:=ZF (.mk n us);show 1+0<=_;omega
  .have:=jcM f us;simp only[nodes];omega
theorem jcM(f:Xb->Xb):∀ts:Xg,jA (y8 f ts)<=jA ts
 | []=>Nat.le_refl _
 |t::ts=>by have:=jd9 f t;have:=jcM f ts;simp only[y8,jA];omega
end
mutual
theorem jpK(f:Xb->Xb):∀t:T,qx (KG f t)<=qx t
 |.mk n us=>by
  rw[KG];split
  .rw [jbD (.mk n us)];show 1+0<=_;omega
  .have:=jhp f us;simp only[qx];omega
theorem jhp(f:Xb->Xb):∀ts:Xg,ZQ (y8 f ts)<=ZQ ts
 | []=>Nat.le_refl _
 |t::ts=>by have:=jpK f t;have:=jhp f ts;simp only[y8,ZQ];omega
end
theorem jcL{f:Xb->Xb}{t:T}(h:jE t.name=false):(KG f t).name=t.name:=by rw[jfH,h,if_neg Bool.false_ne_true];rfl
theorem jho{f:Xb->Xb}{t:T}(h:jE t.name=false):(KG f t).args=t.args.map (KG f):=by rw[jfH,h,if_neg Bool.false_ne_true];rfl
theorem jnV{f:Xb->Xb}(hf:∀n,jE n=true->jE (f n)=true):∀t:T,zy t=true->zy (KG f t)=true:=by
 refine T.ind λt ih h=>?_;cases hv:jE t.name with
 |true=>rw[jfH,hv,if_pos rfl];exact jng _ (hf _ hv)
 |false=>
  have hk:=h;rw[zF,hv,if_neg Bool.false_ne_true,Bool.and_eq_true,Bool.and_eq_true,decide_eq_true_eq]at h;rw[zF,jcL hv,jho hv,hv,if_neg Bool.false_ne_true,Bool.and_eq_true,Bool.and_eq_true,decide_eq_true_eq,List.length_map,yq,List.all_eq_true];refine⟨h.1,h.2.1,λu hu=>?_⟩;obtain⟨a,ha,rfl⟩:=List.mem_map.1 hu;exact ih a ha (y7 hk a ha)
theorem Bx.ren{f:Xb->Xb}(hf:∀n,jE n=true->jE (f n)=true){t:T}(h:Bx t):Bx (KG f t):=by
 have hn:=h.nv;rcases h with h|h
 .left;rw[jcL hn,jho hn,List.length_map];refine⟨h.1,h.2.1,λu hu=>?_⟩;obtain⟨a,ha,rfl⟩:=List.mem_map.1 hu;exact jnV hf a (h.2.2 a ha)
 .right;rw[jcL hn];exact⟨h.1,jnV hf t h.2⟩
theorem QL:∀d:Nat,d<10->kV (UInt8.ofNat (48+d))=true:=by decide
theorem KV{u:Nat}(h:u<10):Lib.decDigits u=[UInt8.ofNat (48+u)]:=Lib.decDigits_one h
theorem jbE{u:Nat}(h:¬u<10):Lib.decDigits u=Lib.decDigits (u / 10)++[UInt8.ofNat (48+u % 10)]:=by rw[Lib.decDigits,dif_neg h]
theorem qy:∀(k u:Nat),u<10 ^ (k+1)->(Lib.decDigits u).all kV=true/\(Lib.decDigits u).length<=k+1
 |0,u,h=>by rw[KV (by omega)];exact⟨by rw[List.all_cons,QL u (by omega),List.all_nil];rfl,by simp⟩
 |k+1,u,h=>by
  by_cases hu:u<10
  .rw [KV hu];exact⟨by rw[List.all_cons,QL u hu,List.all_nil];rfl,by simp⟩
  .obtain ⟨h1,h2⟩:=qy k (u / 10) (by rw[Nat.pow_succ]at h;omega)
   rw[jbE hu,List.all_append,h1,List.length_append];exact⟨by rw[List.all_cons,QL (u % 10) (by omega),List.all_nil];rfl,by simp only[List.length_cons,List.length_nil];omega⟩
theorem jne{p:UInt8}(hp:upc p=true){i:Nat}(hi:i<1000):jE (jnd p i)=true:=by
 obtain⟨h1,h2⟩:=qy 2 i (by omega);show(upc p && ((Lib.decDigits i).all kV && decide ((Lib.decDigits i).length<=3)))=true;rw[hp,h1,decide_eq_true (by omega)];rfl
theorem jp4{l:Xa}{n x:Xb} :x∈vnA l n↔x∈l\/x=n:=by
 unfold vnA;split
 .rename_i h;rw[List.contains_iff_mem]at h;exact⟨Or.inl,λh'=>h'.elim id λe=>e ▸ h⟩
 .simp
theorem jlZ{l:Xa}{n:Xb}(h:l.Nodup):(vnA l n).Nodup:=by
 unfold vnA;split
 .exact h
 .rename_i hc;rw[List.contains_iff_mem]at hc;refine List.nodup_append.2 ⟨h,by simp,λa ha b hb=>?_⟩;simp only[List.mem_singleton]at hb;rintro rfl;exact hc (hb ▸ ha)
mutual
theorem jnm:∀(t:T)(l:Xa)(x:Xb),x∈jcp l t↔x∈l\/x∈jaC t
 |.mk n us,l,x=>by
  rw[jcp,jaC];split
  .rw [jp4];simp
  .exact jg7 us l x
theorem jg7:∀(ts:Xg)(l:Xa)(x:Xb),x∈jcn l ts↔x∈l\/x∈qm ts
 | [],l,x=>by simp[jcn,qm]
 |t::ts,l,x=>by rw[jcn,qm,jg7 ts,jnm t,List.mem_append,or_assoc]
end
mutual
theorem jiC:∀(t:T){l:Xa},l.Nodup->(jcp l t).Nodup
 |.mk n us,l,h=>by
  rw[jcp];split
  .exact jlZ h
  .exact jco us h
theorem jco:∀(ts:Xg){l:Xa},l.Nodup->(jcn l ts).Nodup
 | [],l,h=>h
 |t::ts,l,h=>by rw[jcn];exact jco ts (jiC t h)
end
def CN(c:kA):Prop:=c.length<=8/\ ∀l∈c,Bx l.2/\nodes l.2<=30
theorem jiy{c:kA}(h:CN c):(Kl c).length<=240:=by
 have:∀(c:kA)(l:Xa),(∀y∈c,nodes y.2<=30)->(c.foldl (λl x=>jcp l x.2) l).length<=l.length+30*c.length:=by
  intro c;induction c with
  |nil=>intro l _;simp
  |cons y c ih=>
   intro l h;have h1:=jpA y.2 l;have h2:=h y (by simp);have h3:=ih (jcp l y.2) λz hz=>h z (by simp[hz]);rw[List.foldl_cons,List.length_cons];omega
 have h2:=this c [] λy hy=>(h.2 y hy).2;have h3:=h.1;rw[List.length_nil]at h2;unfold Kl;omega
theorem jkL{p:UInt8}(hp:upc p=true){l:Xa}(hl:l.length<=1000){n:Xb}(hn:jE n=true):jE (jbx p l n)=true:=by
 unfold jbx;split
 .rename_i i h;have:=(List.findIdx?_eq_some_iff_getElem.1 h).1;exact jne hp (by omega)
 .exact hn
theorem jgx{α:Type}(c:α->α->Int)(l:List α)(x:α):(KF c l x).length<=l.length+1:=by
 unfold KF;split
 .omega
 .have:=congrArg List.length (List.takeWhile_append_dropWhile (p:=λa=>decide (c a x<0)) (l:=l));rw[List.length_append]at this;rw[List.length_append,List.length_cons];omega
theorem jdW{α:Type}(c:α->α->Int)(l:List α):(KC c l).length<=l.length:=by
 have:∀(l m:List α),(l.foldl (KF c) m).length<=m.length+l.length:=by
  intro l;induction l with
  |nil=>intro m;simp
  |cons x l ih=>
   intro m;have h1:=jgx c m x;have h2:=ih (KF c m x);rw[List.foldl_cons,List.length_cons];omega
 have:=this l [];simpa[KC]using this
theorem jdX{l:kA}{x:Lt} :x∈KC cmpL l↔x∈l:=(jdV KS l).2 x
theorem CN.make{l:kA}(hl:l.length<=8)(h:∀x∈l,Bx x.2/\nodes x.2<=30):CN (KC cmpL l):=⟨by have:=jdW cmpL l;omega,λx hx=>h x (jdX.1 hx)⟩
theorem CN.ren{p:UInt8}(hp:upc p=true){c:kA}(h:CN c):∀x∈c.map (λl=>(l.1,KG (jbx p (Kl c)) l.2)),Bx x.2/\nodes x.2<=30:=by
 intro x hx;obtain⟨l,hl,rfl⟩:=List.mem_map.1 hx;have hn:=jiy h;have:=jd9 (jbx p (Kl c)) l.2;have:=(h.2 l hl).2;exact⟨(h.2 l hl).1.ren λn hn=>jkL hp (by omega) hn,by show nodes (KG (jbx p (Kl c)) l.2)<=30;omega⟩
theorem CN.renC{p:UInt8}(hp:upc p=true){c:kA}(h:CN c):CN (renC p c):=CN.make (by rw[List.length_map];exact h.1) (h.ren hp)
theorem CN.normF:∀(k:Nat){c:kA},CN c->CN (normF k c)
 |0,c,h=>h
 |k+1,c,h=>by
  rw[Go.Proofs.YteoaojbmnibpcaaGreatDoor.normF];split
  .exact h
  .exact CN.normF k (CN.renC (by decide) h)
theorem CN.normC{c:kA}(h:CN c):CN (normC c):=CN.normF 10 h
theorem Qu{c:kA}(h:kh c=true):CN c/\Asc cmpL c/\(∀l∈c,jR l.2=true):=by
 unfold kh at h;rw[Bool.and_eq_true,Bool.and_eq_true,List.all_eq_true,decide_eq_true_eq,jf8]at h;exact⟨⟨h.2.2,λl hl=>⟨(KQ.1 (h.1 l hl)).1,jaA (KQ.1 (h.1 l hl)).2⟩⟩,h.2.1,h.1⟩
theorem CN.tz{c:kA}(h:CN c):∀l∈c,Tz l.2:=λl hl=>(h.2 l hl).1.tz (by have:=(h.2 l hl).2;omega)
theorem CN.rx{c:kA}(h:CN c):∀l∈c,Rx' l.2:=λl hl=>(h.2 l hl).1.rx
theorem Rx'.va{t:T}(h:Rx' t)(hv:jE t.name=true):t.args=[]:=h.elim (λh=>joh h hv) λh=>by rw[h.1]at hv;exact absurd hv (by decide)
def juN(d:kA):kA:=d.map λl=>(l.1,KG (jbx 89 (Kl d)) l.2)
def jbb(c:kA):Bool:=kh c && jjU c
open Classical in
noncomputable def jvP(a b:T):Option kI:=if h:∃r k,jq2 k [] [(a,b)]=some r then h.choose else none
noncomputable def jre(s:kI)(l:kA):Option kA:=if(l.all λx=>kz (sub s x.2)) && kh (KC cmpL (l.map λx=>(x.1,sub s x.2)))then some (KC cmpL (l.map λx=>(x.1,sub s x.2)))else none
noncomputable def jvI(s:kI)(l:kA):Option kA:=(jre s l).bind λc=>if jbb (normC c)then some (normC c)else none
abbrev cz:A:= .agg [.sl 3 []]
def jpB(o:Option kA):Xe:=match o with|some c=>some (.tup [cm c,vb true],[])|none=>some (.tup [cz,vb false],[])
def atI:Xi->T->Option T
 | [],t=>some t
 |i::p,t=>if 0<=i/\i<(t.args.length:Int)then atI p (t.args.getD i.toNat (.mk [] []))else none
end Go.Proofs.YteoaojbmnibpcaaGreatDoor
