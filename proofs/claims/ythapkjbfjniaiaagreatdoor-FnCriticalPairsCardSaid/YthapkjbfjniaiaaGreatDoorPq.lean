/- Pq -/
import Derived.Test.YthapkjbfjniaiaaGreatDoorKt
import Derived.KernelRfl
set_option linter.unusedVariables false
namespace Go.Proofs.YthapkjbfjniaiaaGreatDoor
open Go Go.RowKit Go.Proofs.YthapkjbfjniaiaaGreatDoor.Abs
set_option linter.unusedSimpArgs false
set_option linter.unusedVariables false
noncomputable section
def vT:V:=V.top
def vD(a:A):V:=V.d a
def vP(i:Nat):V:=V.ptr i 0
def vR(i:Nat):V:=V.row i
def tp(n:Nat):Xj:=List.replicate n vT
def pth:Nat->Nat->Xf
 |0,_=>[]
 |k+1,n=>if Nat.ble n 1 then[]else pth k (n/10)++[n%10]
def hs(sh:Option Xf)(f p:Nat)(l:Xj)(n:Nat)(ob:List Abs.Obj):Xe:=MM K (.head f (pth 60 p) (l++tp n) ob sh)
def hd(f p:Nat)(l:Xj)(n:Nat)(ob:List Abs.Obj):Xe:=hs none f p l n ob
theorem gq{f:FuncId}{fn:Func}{l:Xd}{r:Xe}(h3:Tryz.prog.funcs[f]? = some fn)(h2:K.pureF f=true:=by exact rfl)(h4:fn.body.isSome=true:=by exact rfl)(h5:Nat.ble l.length fn.ntmps=true:=by exact rfl)(h1:K.ext f=none:=by exact rfl)(e:evC K (MM K) f (codeOf fn) [] (Jm fn l) (yU K f fn)=r:=by kernel_rfl):G f l=r:=(jii h2 h3 h4 h5 h1).trans e
theorem vq{f:FuncId}{fn:Func}{l:Xj}{ob:List Abs.Obj}{r:Xe}(h3:Tryz.prog.funcs[f]? = some fn)(h1:K.extv f=none:=by exact rfl)(h4:fn.body.isSome=true:=by exact rfl)(h5:Nat.ble l.length fn.ntmps=true:=by exact rfl)(e:evC K (MM K) f (codeOf fn) [] (Zc fn l ob) (yU K f fn)=r:=by kernel_rfl):MM K (.callv f l ob)=r:=(jik h1 h3 h4 h5).trans e
theorem hq{f:FuncId}{fn:Func}{p:Xf}{l:Xj}{ob:List Abs.Obj}{sh:Option Xf}{r:Xe}(h3:Tryz.prog.funcs[f]? = some fn)(h4:fn.body.isSome=true:=by exact rfl)(e:evAt K (MM K) f (codeOf fn) p [] (St.of fn.ntmps l ob sh) (yU K f fn)=r:=by kernel_rfl):MM K (.head f p l ob sh)=r:=(jij h3 h4).trans e
section
variable{B:Type}
def jbW(n:Nat)(a:A)(k0:Xd->Option B):Option B:=(jez n a).bind k0
def jiz(t:A)(n:Nat)(k0:A->Option B):Option B:=(jhh t n).bind k0
def jhd(t x y:A)(k0:A->Option B):Option B:=(jf3 t x y).bind k0
def jdW(t:A)(w:Bool)(k0:Bool->Option B):Option B:=(Jb t w).bind k0
def jh5(l:A)(k0:A->Option B):Option B:=(jf1 l).bind k0
def kLN(n:Nat)(a:A)(k0:A->Option B):Option B:=(jch n a).bind k0
def jgP(t x:A)(k0:A->Option B):Option B:=(pG t true (some x)).bind k0
def jhY(t x:A)(k0:A->Option B):Option B:=(pG t false (some x)).bind k0
def kGT(t:A)(x:Xl)(k0:A->Option B):Option B:=(pG t true x).bind k0
def kGF(t:A)(x:Xl)(k0:A->Option B):Option B:=(pG t false x).bind k0
def ji8(t:A)(n:Nat)(l:Xd)(k0:A->Option B):Option B:=(pG t true ((G n l).bind (fin false))).bind k0
def jjp(t:A)(n:Nat)(l:Xd)(k0:A->Option B):Option B:=(pG t false ((G n l).bind (fin false))).bind k0
def kF(n:Nat)(l:Xd)(k0:A->Option B):Option B:=((G n l).bind (fin false)).bind k0
def jiU(o:Out)(k0:A->Option B):Option B:=(fin false o).bind k0
def kfn(b:Bool)(x:Xe)(k0:A->Option B):Option B:=(x.bind (fin b)).bind k0
def jnc(x:A)(k0:A->Option B):Option B:=(pUn .not x).bind k0
def kHD(o:Out)(i:Nat)(k0:A->Option B):Option B:=(hD o i).bind k0
def kHR(k:Nat)(o:Out)(i:Nat)(k0:Xc->Option B):Option B:=(hR k o i).bind k0
def kIx(n:Nat)(i:A)(k0:Nat->Option B):Option B:=(pIx n i).bind k0
def kB(d t:Nat)(x:Xl)(k0:Nat->Option B):Option B:=(pB d t x).bind k0
def kRN(l:Xc)(i j n:Nat)(k0:A->Option B):Option B:=(jf5 l i j n).bind k0
def kRG(l:Xc)(i:Nat)(k0:Xd->Option B):Option B:=(jbm l i).bind k0
def kIS(a i:A)(k0:A->Option B):Option B:=(jar a i).bind k0
def kSl(k:Nat)(a:A)(x y:Xl)(k0:A->Option B):Option B:=(K6 k a x y).bind k0
def kRP(l:Xc)(i j:Nat)(k0:A->Option B):Option B:=(jf6 l i j).bind k0
def kMk(n:Nat)(a b:A)(k0:Nat->Option B):Option B:=(Qw n a b).bind k0
def kRs(k:Nat)(a:A)(k0:Xc->Option B):Option B:=(qJ k a).bind k0
def kLS(a:A)(k0:A->Option B):Option B:=(jf2 a).bind k0
def je0(x y:A)(k0:A->Option B):Option B:=(jgx .add false x y).bind k0
def ji2(x y:A)(k0:A->Option B):Option B:=(jgx .eql false x y).bind k0
def jl8(x y:A)(k0:A->Option B):Option B:=(jgx .geq false x y).bind k0
def jnu(x y:A)(k0:A->Option B):Option B:=(jgx .gtr false x y).bind k0
def joB(x y:A)(k0:A->Option B):Option B:=(jgx .leq false x y).bind k0
def jkO(x y:A)(k0:A->Option B):Option B:=(jgx .lss false x y).bind k0
def jkp(x y:A)(k0:A->Option B):Option B:=(jgx .mul false x y).bind k0
def jkA(x y:A)(k0:A->Option B):Option B:=(jgx .neq false x y).bind k0
def jrz(x y:A)(k0:A->Option B):Option B:=(jgx .quo false x y).bind k0
def jmL(x y:A)(k0:A->Option B):Option B:=(jgx .shr false x y).bind k0
def jl9(x y:A)(k0:A->Option B):Option B:=(jgx .sub false x y).bind k0
def kbr(t:A)(X Y:Option B):Option B:=(qI t).bind λu=>brn u X Y
def kbP(c x y:A)(X Y:Option B):Option B:=(jf3 c x y).bind λt=>(qI t).bind λu=>brn u X Y
def kbN(x:A)(X Y:Option B):Option B:=(pUn .not x).bind λt=>(qI t).bind λu=>brn u X Y
def kLb(i l:A)(X Y:Option B):Option B:=(jf1 l).bind λn=>(jgx .lss false i n).bind λt=>(qI t).bind λu=>brn u X Y
def kF2(n:Nat)(l:Xd)(k:A->A->Option B):Option B:=((G n l).bind (fin false)).bind λt=>(jhh t 0).bind λa=>(jhh t 1).bind λb=>k a b
def kFN(n:Nat)(l:Xd)(k:A->Option B):Option B:=((G n l).bind (fin false)).bind λt=>(pUn .not t).bind k
def kIN(n m:Nat)(x i:A)(k:A->Option B):Option B:=(zN m x i).bind λt=>(jch n t).bind k
def kIP(m:Nat)(x i:A)(k:A->Option B):Option B:=(zN m x i).bind λt=>(jci t).bind k
def jry(n m:Nat)(x i:A)(o:Nat)(k:A->Option B):Option B:=(zN m x i).bind λt=>(jgw t o).bind λt=>(jch n t).bind k
def jsO(m:Nat)(x i:A)(o:Nat)(k:A->Option B):Option B:=(zN m x i).bind λt=>(jgw t o).bind λt=>(jci t).bind k
def jg5(x y:A)(X Y:Option B):Option B:=(jgx .lss false x y).bind λt=>(qI t).bind λu=>brn u X Y
def joC(x y:A)(X Y:Option B):Option B:=(jgx .leq false x y).bind λt=>(qI t).bind λu=>brn u X Y
def jjd(x y:A)(X Y:Option B):Option B:=(jgx .gtr false x y).bind λt=>(qI t).bind λu=>brn u X Y
def jqw(x y:A)(X Y:Option B):Option B:=(jgx .geq false x y).bind λt=>(qI t).bind λu=>brn u X Y
def jiL(x y:A)(X Y:Option B):Option B:=(jgx .eql false x y).bind λt=>(qI t).bind λu=>brn u X Y
def jnd(x y:A)(X Y:Option B):Option B:=(jgx .neq false x y).bind λt=>(qI t).bind λu=>brn u X Y
def jcU(x:A):Xe:=some (x,[])
def jka(t:Xd):A:=A.agg [kG t 0]
def jfV(t:Xd):A:=A.agg [kG t 0,kG t 1]
def jl1(t:Xd):A:=A.agg [kG t 0,kG t 1,kG t 2]
end
section
variable(a b c d e f g h i j k l m n o aa ab ac ad ae af ag ah ai aj ak al am:A)(p q r s t u v w x y z:Xc)
def jm2:=hd 100 1111010 ([vD a,vD b]++tp 4++[vP 0,vP 1,vT,vR 2,vD c]) 53 [.box [vD d,vD e],.box [vD f,vD g],.row 1 p]
def jp5:=hd 101 111010 ([vD a,vD b,vD c]++tp 4++[vD d,vD e]) 43 []
def jp6:=hd 101 1111010 ([vD a,vT,vD b]++tp 4++[vD c,vT,vD d]) 42 []
def jn9:=hd 102 11100 [vD a,vD b,vT,vT,vT,vD c] 39 []
def jp7:=hd 103 111010 [vT,vP 0,vT,vD a] 57 [.box [vD b,vD c,vD d]]
def jp8:=hd 108 11010 ([vD a,vD b]++tp 5++[vD c,vD d]) 10 []
def jp9:=hd 110 11010 ([vT,vP 0]++tp 4++[vD a,vD b,vD c]) 43 [.box [vD d]]
def jsA:=MM K (.callv 111 [vR 0,V.fn 112 []] [.row 3 p])
def joa:=hd 114 111100 ([vD a,vD b,vD c]++tp 5++[vD d,vD e,vD f]) 38 []
def jp3:=MM K (.callv 116 [vD a] [])
def jmv:=hs (some []) 116 1111010 ([vT,vT,vT,vR 0]++tp 8++[vD a,vD b,vD c]) 11 [.row 2 p]
def jqa:=hd 117 111010 [vT,vD a,vP 0,vT,vT,vD b,vD c] 24 [.box [vD d,vD e]]
def jqb:=hd 118 111010 [vT,vP 0,vT,vD a,vD b] 17 [.box [vD c,vD d]]
def jqc:=hd 119 11010 [vT,vP 0,vT,vD a] 51 [.box [vD b]]
def jte:=MM K (.callv 11 [vP 0] [.box [vD a,vD b,vD c]])
def jsB:=MM K (.callv 123 [V.agg [V.row 0],vD a,V.agg [V.d b,V.d c]] [.row 3 p])
def job:=hs (some [3]) 123 111100 [vT,vD a,vT,vP 0,vT,vP 1,vP 2,vD b] 43 [.box [vR 3],.box [vD c,vD d],.box [vR 4],.row 3 p,.row 3 q]
def jp4:=MM K (.callv 123 [V.agg [V.row 0],vD a,vD b] [.row 3 p])
def jlm:=hs (some [3]) 123 111100 [vT,vD a,vT,vP 0,vT,vP 1,vP 2,vD b] 43 [.box [vR 3],.box [vD c,vD d],.box [vR 4],.row 3 p,.row 3 q]
def jpl:=MM K (.callv 12 [vP 0,vD a] [.box [vD b,vD c,vD d]])
def jtl:=hd 13 111010 [vT,vP 0,vP 1,vP 2,vD a] 22 [.box [vD b,vD c],.box [vD d,vR 3],.box [vD e,vR 4],.row 2 p,.row 2 q]
def joc:=hd 138 1111010 ([vT,vD a,vT,vT,vT,vD b]++tp 7++[vD c,vD d,vD e]) 10 []
def jqd:=hd 139 1111010 ([vT,vT,vP 0,vT,vT,vD a]++tp 16++[vD b,vD c,vD d]) 10 [.box [vD e,vD f,vD g]]
def jtf:=MM K (.callv 13 [V.agg [V.d a,V.d b]] [])
def jnO:=hs (some []) 13 111010 [vT,vP 0,vP 1,vP 2,vD a] 22 [.box [vD b,vD c],.box [vD d,vR 3],.box [vD e,vR 4],.row 2 p,.row 2 q]
def jqe:=hd 141 111010 ([vT,vT,vT,vP 0,vP 1,vP 2]++tp 20++[vD a,vD b,vD c]) 21 [.box [vD d,vD e],.box [vD f,vR 3],.box [vD g,vR 4],.row 2 p,.row 2 q]
def jqf:=hd 142 11010 [vT,vD a,vP 0,vT,vT,vD b] 20 [.box [vD c,vD d]]
def jqg:=hd 144 111010 [vT,vT,vP 0,vP 1,vT,vD a] 26 [.box [vD b,vD c,vD d],.box [vD e,vD f]]
def jqh:=hd 145 111010 [vT,vT,vP 0,vP 1,vT,vD a,vD b] 21 [.box [vD c,vD d],.box [vD e,vD f]]
def jod:=hd 146 1111010 [vT,vT,vP 0,vP 1,vT,vD a,vD b] 31 [.box [vD c,vD d,vD e],.box [vD f,vD g]]
def joe:=hd 148 11010 [vT,vT,vP 0,vP 1,vT,vD a] 20 [.box [vD b,vD c],.box [vD d,vD e]]
def jvy:=MM K (.callv 14 [vD a,vD b] [])
def jq2:=hd 15 111010 ([vT,vT,vT,vR 0]++tp 7++[vD a,vD b,vD c]) 21 [.row 1 p]
def jtm:=hd 15 11101001100110 ([vT,vT,vT,vR 0,vD a]++tp 6++[vD b,vD c,vD d]++tp 5++[vD e,vD f,vD g]) 13 [.row 1 p]
def jqi:=hd 153 111010 [vD a,vT,vT,vP 0,vT,vD b] 22 [.box [vD c,vD d]]
def jqj:=hd 154 111010 [vT,vT,vP 0,vP 1,vP 2,vP 3,vD a] 56 [.box [vD b],.box [vD c],.box [vR 4],.box [vR 5],.row 3 p,.row 3 q]
def jof:=hd 154 1111010 [vT,vT,vP 0,vP 1,vP 2,vP 3,vT,vD a] 55 [.box [vD b],.box [vD c],.box [vR 4],.box [vR 5],.row 3 p,.row 3 q]
def jqk:=hd 160 11010 [vT,vD a,vP 0,vT,vT,vD b] 15 [.box [vD c,vD d,vD e]]
def jog:=hd 161 1111010 [vT,vD a,vP 0,vT,vT,vD b,vD c] 21 [.box [vD d,vD e]]
def jqZ:=MM K (.callv 16 [vD a,vD b,vD c] [])
def jtn:=hd 21 11010010 [vT,vD a,vD b,vP 0,vT,vT,vP 1,vD c] 50 [.box [vD d,vD e],.box [vD f,vR 2],.row 2 p]
def jto:=hd 21 1111010 [vT,vD a,vD b,vP 0,vT,vT,vP 1,vT,vP 2,vD c] 48 [.box [vD d,vD e],.box [vD f,vR 3],.box [vD g,vR 4],.row 2 p,.row 2 q]
def jtg:=MM K (.callv 22 [V.agg [V.d a,V.d b],vR 0] [.row 1 p])
def jql:=hs (some [0]) 22 111010 [vT,vR 0,vP 1,vT,vT,vD a] 28 [.row 1 p,.box [vD b,vD c]]
def jnP:=hs (some [2]) 22 111010 [vT,vR 0,vP 1,vT,vT,vD a] 28 [.row 1 p,.box [vD b,vD c],.gone]
def jvz:=MM K (.callv 22 [V.agg [V.d a,V.row 0],vR 1] [.row 2 p,.row 1 q])
def jqm:=hs (some [2,0]) 22 111010 [vT,vR 0,vP 1,vT,vT,vD a] 28 [.row 1 p,.box [vD b,vR 2],.row 2 q]
def jnQ:=hs (some [2,3]) 22 111010 [vT,vR 0,vP 1,vT,vT,vD a] 28 [.row 1 p,.box [vD b,vR 2],.row 2 q,.gone]
def jq0:=MM K (.callv 22 [vD a,vR 0] [.row 1 p])
def jnR:=hs (some [0]) 22 111010 [vT,vR 0,vP 1,vT,vT,vD a] 28 [.row 1 p,.box [vD b,vD c]]
def jnS:=hs (some [2]) 22 111010 [vT,vR 0,vP 1,vT,vT,vD a] 28 [.row 1 p,.box [vD b,vD c],.gone]
def jtp:=hd 23 111010 [vT,vD a,vP 0,vT,vT,vR 1,vD b] 24 [.box [vD c,vD d],.row 1 p]
def jtq:=hd 25 111010 [vT,vT,vP 0,vP 1,vT,vD a] 33 [.box [vD b,vD c],.box [vD d,vD e]]
def jpq:=hd 29 111010 [vD a,vD b,vT,vT,vT,vP 0,vT,vR 1,vD c] 92 [.box [vD d],.row 1 p]
def jpr:=hd 29 11111010 [vD a,vD b,vT,vT,vT,vP 0,vT,vR 1,vT,vD c,vD d] 90 [.box [vD e],.row 1 p]
def jln:=hd 29 111111010 [vD a,vD b,vT,vT,vT,vP 0,vT,vR 1,vT,vD c,vT,vD d] 89 [.box [vD e],.row 1 p]
def jq3:=hd 29 111111010010011010 [vD a,vD b,vT,vT,vT,vP 0,vT,vR 1,vT,vD c,vT,vD d,vP 2,vD e,vD f] 86 [.box [vD g],.row 1 p,.box [vR 3,vR 4],.row 1 q,.row 1 r]
def joh:=hd 29 11111101001001111010 [vD a,vD b,vT,vT,vT,vP 0,vT,vR 1,vT,vD c,vT,vD d,vP 2,vT,vT,vD e,vD f] 84 [.box [vD g],.row 1 p,.box [vR 3,vR 4],.row 1 q,.row 1 r]
def jqn:=hd 3 111111010 [vD a,vT,vT,vP 0,vP 1,vR 2,vD b,vT,vT,vD c] 96 [.box [vD d,vD e],.box [vD f,vD g],.tre true 2 p]
def jlj:=MM K (.callv 31 [vP 0,vD a] [.box [vD b,vD c,vD d]])
def jpm:=MM K (.callv 32 [vP 0,vR 1] [.box [vD a,vD b,vD c],.row 1 p])
def jq4:=hd 33 11111010 [vT,vT,vP 0,vP 1,vT,vP 2,vD a] 43 [.box [vD b,vD c],.box [vD d,vD e],.box [vD f,vR 3,vD g],.row 1 p]
def jth:=MM K (.callv 34 [vP 0,vD a] [.box [vD b,vD c,vD d]])
def jpn:=MM K (.callv 37 [vD a,vD b] [])
def jlH:=hs (some []) 37 1111010 ([vT,vD a,vT,vT,vP 0,vP 1]++tp 24++[vD b,vD c,vD d]) 13 [.box [vD e,vR 2],.box [vD f,vR 3],.tre true 2 p,.tre true 2 q]
def jtr:=hd 38 111010 [vT,vD a,vT,vT,vT,vR 0,vT,vT,vT,vD b,vD c,vD d] 12 [.map p]
def jmt:=MM K (.callv 39 [vR 0,V.agg [V.d a,V.d b]] [.row 1 p])
def jmw:=hs (some [0]) 39 111010 ([vR 0]++tp 26++[vD a,vD b,vD c]) 8 [.row 1 p]
def jmx:=hs (some [1]) 39 111010 ([vR 0]++tp 26++[vD a,vD b,vD c]) 8 [.row 1 p,.gone]
def jts:=hd 40 11010 [vT,vT,vP 0,vT,vP 1,vT,vT,vT,vD a,vD b,vD c] 18 [.box [vD d,vD e],.box [vD f,vR 2],.row 2 p]
def jvF:=hd 42 111100 (tp 4++[vP 0,vT,vP 1,vR 2]) 115 [.box [vR 3],.box [vR 4],.row 4 p,.row 3 q,.row 3 r]
def jq5:=hd 42 111100 (tp 4++[vP 0,vT,vP 1,V.win 2 4 (nOf a) (nOf b)]) 115 [.box [vR 3],.box [vR 4],.row 4 p,.row 3 q,.fro 3 r]
def jmy:=hd 42 111100 (tp 4++[vP 0,vT,vP 1,V.win 2 4 (nOf a) (nOf b)]) 115 [.box [vR 3],.box [vD c],.row 4 p,.row 3 q]
def jtt:=hd 42 1111000101110111111111010 (tp 4++[vP 0,vT,vP 1,V.win 2 4 (nOf a) (nOf b),vT,vT,vP 3,vT,vT,vT,vR 6]++tp 32++[vD c,vD d,vD e]) 73 [.box [vR 4],.box [vR 5],.row 4 p,.box [vD f,vD g],.row 3 q,.fro 3 r,.row 4 s]
def jtu:=hd 42 1111000101110111111111010 (tp 4++[vP 0,vT,vP 1,V.win 2 4 (nOf a) (nOf b),vT,vT,vP 3,vT,vT,vT,vR 5]++tp 32++[vD c,vD d,vD e]) 73 [.box [vR 4],.box [vD f],.row 4 p,.box [vD g,vD h],.row 3 q,.row 4 r]
def jvG:=hd 42 1111000101110111111111010 (tp 4++[vP 0,vT,vP 1,V.win 2 4 (nOf a) (nOf b),vT,vT,vP 3,vT,vT,vT,vR 4]++tp 32++[vD c,vD d,vD e]) 73 [.box [vR 5],.box [vR 6],.row 4 p,.box [vD f,vD g],.row 4 q,.row 3 r,.fro 3 s]
def joi:=hd 42 111100 (tp 4++[vP 0,vT,vP 1,vR 2]) 115 [.box [vR 3],.box [vR 4],.row 4 p,.row 3 q,.fro 3 r]
def jvH:=hd 42 1111000101110111111111010 (tp 4++[vP 0,vT,vP 1,V.win 2 4 (nOf a) (nOf b),vT,vT,vP 3,vT,vT,vT,vR 4]++tp 32++[vD c,vD d,vD e]) 73 [.box [vR 5],.box [vD f],.row 4 p,.box [vD g,vD h],.row 4 q,.row 3 r]
def jps:=hd 42 111100 (tp 4++[vP 0,vT,vP 1,vR 2]) 115 [.box [vR 3],.box [vD a],.row 4 p,.row 3 q]
def jvI:=hd 43 1111010 ([vT,vT,vP 0,vT,vP 1,vT,vT,vP 2]++tp 27++[vD a,vD b,vD c]) 13 [.box [vD d],.box [vD e,vR 4],.box [vD f,vR 3],.row 2 p,.row 2 q]
def jvJ:=hd 43 1111010 ([vT,vT,vP 0,vT,vP 1,vT,vT,vP 2]++tp 27++[vD a,vD b,vD c]) 13 [.box [vD d],.box [vD e,vR 3],.box [vD f,vR 4],.row 2 p,.row 2 q]
def jtv:=hd 46 11010 ([vD a,vD b]++tp 5++[vD c,vD d]) 10 []
def jtw:=hd 47 111010 ([vT,vD a,vD b]++tp 12++[vD c,vD d,vD e]) 14 []
def jpt:=hd 49 111010 [vD a,vT,vT,vD b] 25 []
def jtx:=hd 51 11010 [vD a,vD b,vT,vT,vT,vD c] 12 []
def jti:=MM K (.callv 52 [vD a] [])
def jty:=hd 53 11010 [vT,vD a,vP 0,vT,vP 1,vT,vD b] 27 [.box [vD c,vD d],.box [vD e,vR 2],.row 2 p]
def jvK:=hd 54 1111100 (tp 4++[vP 0,vT,vP 1,vP 2,vR 3]) 140 [.box [vR 4],.box [vR 5],.box [vR 6],.row 4 p,.row 3 q,.row 3 r,.row 3 s]
def jq6:=hd 54 1111100 (tp 4++[vP 0,vT,vP 1,vP 2,V.win 3 4 (nOf a) (nOf b)]) 140 [.box [vR 4],.box [vR 5],.box [vR 6],.row 4 p,.row 3 q,.row 3 r,.fro 3 s]
def jmz:=hd 54 1111100 (tp 4++[vP 0,vT,vP 1,vP 2,V.win 3 4 (nOf a) (nOf b)]) 140 [.box [vR 4],.box [vR 5],.box [vD c],.row 4 p,.row 3 q,.row 3 r]
def jtz:=hd 54 1111100010111110011111111111010 (tp 4++[vP 0,vT,vP 1,vP 2,V.win 3 4 (nOf a) (nOf b),vP 4,vT,vP 5,vT,vD c,vR 9,vD d]) 133 [.box [vR 6],.box [vR 7],.box [vR 8],.row 4 p,.box [vD e,vD f],.box [vD g,vD h],.row 3 q,.row 3 r,.fro 3 s,.row 4 t]
def jtA:=hd 54 1111100010111110011111111111010 (tp 4++[vP 0,vT,vP 1,vP 2,V.win 3 4 (nOf a) (nOf b),vP 4,vT,vP 5,vT,vD c,vR 8,vD d]) 133 [.box [vR 6],.box [vR 7],.box [vD e],.row 4 p,.box [vD f,vD g],.box [vD h,vD i],.row 3 q,.row 3 r,.row 4 s]
def jvL:=hd 54 1111100010111110011111111111010 (tp 4++[vP 0,vT,vP 1,vP 2,V.win 3 4 (nOf a) (nOf b),vP 4,vT,vP 5,vT,vD c,vR 6,vD d]) 133 [.box [vR 7],.box [vR 8],.box [vR 9],.row 4 p,.box [vD e,vD f],.box [vD g,vD h],.row 4 q,.row 3 r,.row 3 s,.fro 3 t]
def joj:=hd 54 1111100 (tp 4++[vP 0,vT,vP 1,vP 2,vR 3]) 140 [.box [vR 4],.box [vR 5],.box [vR 6],.row 4 p,.row 3 q,.row 3 r,.fro 3 s]
def jvM:=hd 54 1111100010111110011111111111010 (tp 4++[vP 0,vT,vP 1,vP 2,V.win 3 4 (nOf a) (nOf b),vP 4,vT,vP 5,vT,vD c,vR 6,vD d]) 133 [.box [vR 7],.box [vR 8],.box [vD e],.row 4 p,.box [vD f,vD g],.box [vD h,vD i],.row 4 q,.row 3 r,.row 3 s]
def jpu:=hd 54 1111100 (tp 4++[vP 0,vT,vP 1,vP 2,vR 3]) 140 [.box [vR 4],.box [vR 5],.box [vD a],.row 4 p,.row 3 q,.row 3 r]
def jtB:=hd 55 1111010 [vT,vT,vP 0,vP 1,vP 2,vT,vP 3,vD a] 42 [.box [vD b],.box [vD c,vD d],.box [vD e,vR 4],.box [vD f,vR 5],.row 2 p,.row 2 q]
def jq7:=hd 58 11010 ([vD a]++tp 4++[vD b,vD c]) 41 []
def jl5:=MM K (.callv 59 [vR 0,V.agg [V.d a,V.d b]] [.row 1 p])
def jnT:=hs (some [1]) 59 111010 ([vR 0]++tp 22++[vD a,vD b,vD c]) 8 [.row 1 p,.gone]
def jqo:=hs (some [0]) 59 111010 ([vR 0]++tp 22++[vD a,vD b,vD c]) 8 [.row 1 p]
def jpo:=MM K (.callv 60 [vR 0] [.row 1 p])
def jvA:=MM K (.callv 61 [vR 0,vD a] [.row 1 p])
def jnU:=hs (some [1]) 61 111111100 (tp 7++[vR 0,vD a]) 39 [.row 1 p,.row 1 q]
def jq1:=MM K (.callv 63 [vR 0,vD a] [.row 1 p])
def jlI:=hs (some [0]) 63 11010010 [vR 0,vT,vT,vP 1,vT,vD a] 57 [.row 1 p,.box [vD b,vD c]]
def jnV:=hs (some [0]) 63 111010 [vR 0,vT,vT,vP 1,vT,vT,vD a] 56 [.row 1 p,.box [vD b,vD c]]
def jnW:=hs (some [2]) 63 111010 [vR 0,vT,vT,vP 1,vT,vT,vD a] 56 [.row 1 p,.box [vD b,vD c],.gone]
def jvB:=MM K (.callv 64 [V.agg [V.row 0,V.row 1],vD a,vD b] [.row 1 p,.row 1 q])
def jl6:=hd 65 111010 ([vD a,vD b]++tp 4++[vP 0,vP 1,vT,vR 2,vD c]) 43 [.box [vD d,vD e],.box [vD f,vD g],.row 1 p]
def jq8:=hd 66 111010 [vD a,vT,vT,vP 0,vT,vD b] 23 [.box [vD c,vD d]]
def jtj:=MM K (.callv 68 [vP 0] [.box [vD a,vD b,vD c]])
def jxT:=MM K (.callv 6 [vD a,vD b] [])
def jm3:=hs (some []) 6 111111010 (tp 6++[vP 0,vT,vP 1,vT,vR 2]++tp 27++[vD a,vD b,vD c]) 23 [.box [vD d,vD e],.box [vD f,vD g],.tre true 2 p]
def jz2:=hd 7 111111010 (tp 6++[vR 2,vP 0,vP 1,vD a,vD b]) 67 [.box [vD c,vD d],.box [vD e,vD f],.row 2 p]
def jvN:=hd 7 11111101001001010 (tp 6++[vR 0,vP 1,vP 2,vD a,vD b,vP 3,vD c,vD d]) 64 [.row 2 p,.box [vD e,vD f],.box [vD g,vD h],.box [vD i,vD j]]
def jra:=hd 7 111111010 (tp 6++[vR 0,vP 1,vP 2,vD a,vD b]) 67 [.row 2 p,.box [vD c,vD d],.box [vD e,vD f]]
def jq9:=hd 74 111010 ([vT,vT,vP 0,vP 1,vP 2,vT,vP 3]++tp 9++[vD a,vD b,vD c]) 58 [.box [vD d],.box [vD e],.box [vR 4],.box [vR 5],.row 3 p,.row 3 q]
def jpv:=hd 74 1111010 ([vT,vT,vP 0,vT,vP 1,vT,vP 2]++tp 35++[vD a,vD b,vD c]) 32 [.box [vD d],.box [vR 3],.box [vR 4],.row 3 p,.row 3 q]
def jtk:=MM K (.callv 76 [V.agg [V.d a,V.d b]] [])
def jtC:=hd 77 111010 [vT,vT,vT,vD a,vT,vT,vT,vD b,vD c,vD d] 12 []
def jtD:=hd 78 111010 [vT,vT,vT,vD a,vT,vT,vT,vD b,vD c,vD d] 10 []
def jtE:=hd 80 1111010 [vT,vP 0,vT,vD a] 31 [.box [vD b,vD c]]
def jkL:=hd 81 1111010 [vD a,vT,vT,vD b] 41 []
def jrb:=hd 87 11010 [vT,vD a,vP 0,vT,vT,vD b] 16 [.box [vD c]]
def jrc:=hd 88 11010 ([vD a]++tp 4++[vD b,vD c]) 33 []
def jvO:=hd 9 11010 ([vD a,vD b,vD c]++tp 4++[vD d]) 17 []
def jrd:=hd 98 11010 ([vT,vT,vT,vP 0,vP 1,vP 2]++tp 9++[vD a,vD b,vD c]) 49 [.box [vD d,vD e,vD f],.box [vD g,vD h],.box [vD i,vD j]]
def e_0(a:A)(b:A)(c:A)(d:A)(e:A)(p:Xc)(q:Xc):Xe:=brn (ZO a) (brn (ZO b) (some (A.top,[c,d,e,A.agg [sv [61],A.sl 2 [[a,A.sl 2 p],[b,A.sl 2 q]]]])) none) none
def e_2(p:Xc)(a:A)(b:A)(c:A)(d:A):Xe:=kB (jdD p) (jhi p 0) (some a) λe=>brn (jbk (JN (jh7 p 0 (jh2 e 0))) 56) ((G 13 [A.agg [b,c]]).bind λb=>jiU b λb=>(K3 (kD (K.at 123) 110) [sv [],sv [],A.sl 2 []] [(0,d),(1,b)]).bind λb=>jbW 3 b λb=>brn (jbk ((JN (jh7 p 0 (jh2 e 0)))+(JN [[kG b 0,kG b 1,kG b 2]])) 56) (kB (jdD p) (jhi p 0) none λc=>kB 0 c (some a) λa=>brn (jbk ((JN (jgD (jh7 p 0 (jh2 e 0)) [[kG b 0,kG b 1,kG b 2]]))+(JN (jh7 p (0+a) (jh2 c a)))) 56) (some (A.top,[A.sl 3 (jgD (jgD (jh7 p 0 (jh2 e 0)) [[kG b 0,kG b 1,kG b 2]]) (jh7 p (0+a) (jh2 c a)))])) none) none) none
def e_1(a:A)(b:A)(c:A)(d:A)(e:A)(f:A)(p:Xc)(q:Xc):Xe:=jgP a b λg=>kGT a (jgx .lss false c g) λc=>kbP a c (vb false) (je0 d (vi 1) λa=>job b a e f p q) (e_2 p d e f b)
def e_3(a:A)(b:A)(c:A)(d:A)(e:A)(f:A)(p:Xc)(q:Xc):Xe:=jgP a b λg=>kGT a (jgx .lss false c g) λc=>kbP a c (vb false) (je0 d (vi 1) λa=>jlm b a e f p q) (e_2 p d e f b)
def e_5(a:A)(b:A)(c:A)(d:Xd)(e:Xd):Xe:=jjp a 19 [b,c] λb=>kbP a (vb true) b (some (A.top,[sv [],vb false,A.sl 66 []])) ((jvy (A.agg [sv [61],A.sl 2 [[kG d 0,kG d 1],[kG e 0,kG e 1]]]) (sv [88])).bind λa=>kHD a 0 λb=>kHD a 1 λc=>kHR 66 a 2 λa=>brn (zY b) (brn (zY c) (brn (ZO b) (some (A.top,[b,c,A.sl 66 a])) none) none) none)
def e_4(a:A)(c:Xd)(d:Xd)(b:A):Xe:=jdW a false λ_=>jdW a false λ_=>jdW a false λe=>brn e (kIx (JN [[kG c 0,kG c 1],[kG d 0,kG d 1]]) (vi 1) λe=>kGF a (jf5 [[kG c 0,kG c 1],[kG d 0,kG d 1]] e 0 2) λe=>e_5 a b e c d) (kGF a (jch 2 (A.val undef)) λe=>e_5 a b e c d)
def e_6(a:A):Xe:=brn (ZO a) (brn (ZO a) (jcU (A.agg [a,A.sl 2 []])) none) none
def e_7(a:A)(p:Xc):Xe:=brn (ZO a) (brn (jbk ((JN p)+(JN [[a]])) 16) (some (A.top,[A.sl 1 (jgD p [[a]])])) none) none
def e_8(a:A)(b:A)(p:Xc)(c:A):Xe:=kLb a b (kIN 2 2 b a λd=>(jq0 d p).bind λd=>kHR 1 d 0 λd=>je0 a (vi 1) λa=>jnP a c b d) (some (A.top,[A.sl 1 p]))
def e_9(a:A)(p:Xc)(q:Xc)(b:A):Xe:=jg5 a (jdE p) (kIx (JN p) a λc=>kRN p c 0 2 λc=>(jq0 c q).bind λc=>kHR 1 c 0 λc=>je0 a (vi 1) λa=>jnQ a b c p) (some (A.top,[A.sl 2 p,A.sl 1 q]))
def jx5(a:A)(b:A)(p:Xc)(c:A):Xe:=kLb a b (kIN 2 2 b a λd=>(jq0 d p).bind λd=>kHR 1 d 0 λd=>je0 a (vi 1) λa=>jnS a c b d) (some (A.top,[A.sl 1 p]))
def jx7(a:A)(b:A)(c:A)(d:Xd)(e:Xd):Xe:=jjp a 25 [b,c] λb=>kbP a (vb true) b (jcU (A.tup [A.agg [sv [],A.sl 2 []],vb false])) ((jvz (sv [61]) [[kG d 0,kG d 1],[kG e 0,kG e 1]] []).bind λa=>kHR 2 a 0 λb=>kHR 1 a 1 λa=>(G 21 [A.agg [sv [61],A.sl 2 b],A.sl 1 a,sv [88]]).bind λa=>jiU a λa=>jbW 2 a λa=>jcU (A.tup [jfV a,vb true]))
def jx6(a:A)(c:Xd)(d:Xd)(b:A):Xe:=jdW a false λ_=>jdW a false λ_=>jdW a false λe=>brn e (kIx (JN [[kG c 0,kG c 1],[kG d 0,kG d 1]]) (vi 1) λe=>kGF a (jf5 [[kG c 0,kG c 1],[kG d 0,kG d 1]] e 0 2) λe=>jx7 a b e c d) (kGF a (jch 2 (A.val undef)) λe=>jx7 a b e c d)
def jx8(a:A)(b:A)(c:A):Xe:=(jpm a b c [[sv [88]],[sv [89]],[sv [90]],[sv [97]],[sv [98]],[sv [88]],[sv [97]]]).bind λa=>kHD a 0 λb=>kHD a 1 λc=>kHD a 2 λd=>kHD a 3 λa=>brn (ZO a) (brn (ZO a) (some (A.top,[b,c,d,a,A.sl 2 []])) none) none
def jx9(a:A)(b:A)(c:A)(d:A):Xe:=(jpl (vi 2) a b c).bind λa=>kHD a 0 λb=>kHD a 1 λc=>kHD a 2 λe=>kHD a 3 λa=>kbr a (jl9 d (vi 1) λa=>(jlj a b c e).bind λa=>kHD a 0 λb=>kHD a 1 λc=>kHD a 2 λd=>kHD a 3 λe=>kHR 2 a 4 λa=>brn (ZO e) (some (A.top,[b,c,d,sv [102],A.sl 2 [[e,A.sl 2 a]]])) none) (jl9 d (vi 1) λa=>(jlj a b c e).bind λa=>kHD a 0 λb=>kHD a 1 λc=>kHD a 2 λe=>kHD a 3 λf=>kHR 2 a 4 λa=>jl9 d (vi 1) λd=>(jlj d b c e).bind λb=>kHD b 0 λc=>kHD b 1 λd=>kHD b 2 λe=>kHD b 3 λg=>kHR 2 b 4 λb=>brn (ZO f) (brn (ZO g) (some (A.top,[c,d,e,sv [103],A.sl 2 [[f,A.sl 2 a],[g,A.sl 2 b]]])) none) none)
def jya(a:A)(b:A)(c:A)(d:A)(e:A):Xe:=(jgx .rem false a b).bind λa=>some (A.top,[c,d,e,a])
def jyb(a:A)(b:A)(c:A)(p:Xc):Xe:=jg5 a b (kIN 2 2 c a λd=>jbW 2 d λd=>(jmt (kG d 0) (kG d 1) p).bind λd=>kHR 1 d 0 λd=>je0 a (vi 1) λa=>jmx c b a d) (some (A.top,[A.sl 1 p]))
def jyd(a:Out)(b:Nat)(c:Nat)(p:Xc)(q:Xc):Xe:=jiU a λa=>jiz a 0 λd=>jiz a 1 λa=>jbW 1 d λd=>kbN a (jcU (A.tup [A.agg [A.sl 3 []],vb false])) (jmy (nA (0+b)) (nA (jh2 c b)) (kG d 0) p q)
def jyc(p:Xc)(q:Xc)(r:Xc):Xe:=jjd (jdE p) (vi 0) (kIx (JN p) (vi 0) λa=>kRN p a 0 2 λa=>(G 72 [A.agg [A.sl 3 q],a]).bind λa=>jiU a λa=>jiz a 0 λb=>jiz a 1 λa=>jbW 2 b λb=>kIx (JN p) (vi 0) λc=>kRN p c 2 2 λc=>(G 72 [A.agg [A.sl 3 q],c]).bind λc=>jiU c λc=>jiz c 0 λd=>jiz c 1 λc=>jbW 2 d λd=>kB (jdD p) (jhi p 0) none λe=>kB 0 e (some (vi 1)) λf=>jnc a λa=>jhY a c λc=>kGF a (pUn .not c) λc=>kbP a (vb true) c (jcU (A.tup [A.agg [A.sl 3 []],vb false])) (kF 19 [jfV b,jfV d] λa=>kbr a (jq5 (nA (0+f)) (nA (jh2 e f)) p r q) (kF 41 [jfV b] λa=>jdW a false λ_=>jjp a 41 [jfV d] λc=>kbP a (vb true) c (brn (ZO (kG b 0)) (brn (ZO (kG b 1)) (brn (ZO (kG d 0)) (brn (ZO (kG d 1)) (kF2 73 [A.agg [kG b 0,kG b 1,kG d 0,kG d 1]] λa b=>jbW 1 a λa=>kbN b (jcU (A.tup [A.agg [A.sl 3 []],vb false])) ((G 74 [A.agg [A.sl 3 q],jka a]).bind λa=>jyd a f e p r)) none) none) none) none) (jkA (kG b 0) (kG d 0) λa=>jdW a false λ_=>jhY a (kG b 1) λc=>kGF a (jf1 c) λc=>jdW a false λ_=>jhY a (kG d 1) λg=>kGF a (jf1 g) λg=>kGF a (jgx .neq false c g) λc=>kbP a (vb true) c (jcU (A.tup [A.agg [A.sl 3 []],vb false])) (jh5 (kG b 1) λa=>jtt (nA (0+f)) (nA (jh2 e f)) (kG b 1) a (vi 0) (kG d 0) (kG d 1) p r q []))))) (jcU (A.tup [A.agg [A.sl 3 q],vb true]))
def jye(b:Out)(a:A)(c:Nat)(d:Nat)(p:Xc)(q:Xc):Xe:=jiU b λb=>jiz b 0 λe=>jiz b 1 λb=>jbW 1 e λe=>kbN b (jcU (A.tup [A.agg [A.sl 3 []],vb false])) (jmy (nA ((nOf a)+c)) (nA (jh2 d c)) (kG e 0) p q)
def jyf(a:A)(b:A)(c:A)(d:A)(p:Xc)(e:A)(f:A)(g:A)(q:Xc)(r:Xc)(s:Xc):Xe:=jg5 a b (kIN 2 2 c a λh=>jbW 2 h λh=>kIN 2 2 d a λi=>brn (ZO (kG h 0)) (brn (ZO (kG h 1)) (jbW 2 i λi=>brn (ZO (kG h 0)) (brn (ZO (kG h 1)) (brn (ZO (kG i 0)) (brn (ZO (kG i 1)) (brn (jbk ((JN p)+(JN [[kG h 0,kG h 1,kG i 0,kG i 1]])) 80) (je0 a (vi 1) λa=>jvG (nA (nOf e)) (nA (nOf f)) c b a g d q (jgD p [[kG h 0,kG h 1,kG i 0,kG i 1]]) r s) none) none) none) none) none) none) none) (brn (jbk ((JN p)+(JN (jh7 q (nOf e) (nOf f)))) 80) (joi (jgD p (jh7 q (nOf e) (nOf f))) r s) none)
def jyg(a:A)(b:A)(c:A)(d:A)(p:Xc)(e:A)(f:A)(g:A)(h:A)(q:Xc)(r:Xc):Xe:=jg5 a b (kIN 2 2 c a λi=>jbW 2 i λi=>kIN 2 2 d a λj=>brn (ZO (kG i 0)) (brn (ZO (kG i 1)) (jbW 2 j λj=>brn (ZO (kG i 0)) (brn (ZO (kG i 1)) (brn (ZO (kG j 0)) (brn (ZO (kG j 1)) (brn (jbk ((JN p)+(JN [[kG i 0,kG i 1,kG j 0,kG j 1]])) 80) (je0 a (vi 1) λa=>jvH (nA (nOf e)) (nA (nOf f)) c b a g h d q (jgD p [[kG i 0,kG i 1,kG j 0,kG j 1]]) r) none) none) none) none) none) none) none) (brn (jbk ((JN p)+(JN (jh7 q (nOf e) (nOf f)))) 80) (jps g (jgD p (jh7 q (nOf e) (nOf f))) r) none)
def jyh(a:Xd):Xe:=brn (ZO (kG a 0)) (brn (ZO (kG a 0)) (jcU (A.agg [kG a 0,A.sl 2 []])) none) none
def jyi(a:A)(b:A)(c:A)(d:A)(p:Xc)(e:A)(f:A)(q:Xc):Xe:=jg5 a b (kIN 2 2 c a λg=>jbW 2 g λg=>kF 43 [A.agg [d],jfV g] λg=>kIx (JN p) a λh=>jbW 2 g λg=>kRG p h λi=>je0 a (vi 1) λa=>jvJ c b a d e f q (jat p h (Z4 i 0 [kG g 0,kG g 1]))) (brn (ZO f) (jcU (A.agg [f,A.sl 2 p])) none)
def jyj(a:Out):Xe:=kHD a 0 λb=>kHR 2 a 1 λa=>brn (ZO b) (jcU (A.agg [b,A.sl 2 a])) none
def jyk(p:Xc)(a:A)(b:A)(c:A):Xe:=kIx (JN p) a λa=>jbW 2 b λb=>kRG p a λd=>brn (ZO c) (jcU (A.agg [c,A.sl 2 (jat p a (Z4 d 0 [kG b 0,kG b 1]))])) none
def jyl(b:Xd)(a:A):Xe:=brn (ZO (kG b 0)) (brn (ZO (kG b 1)) (jbW 2 a λa=>jcU (A.tup [jfV b,jfV a])) none) none
def jyn(a:Out)(p:Xc)(b:Nat)(c:Nat)(q:Xc)(r:Xc):Xe:=jiU a λa=>jiz a 0 λd=>jiz a 1 λa=>jbW 1 d λd=>kbN a (jcU (A.tup [A.agg [A.sl 3 p],vb false])) (jmz (nA (0+b)) (nA (jh2 c b)) (kG d 0) q r p)
def jv2(p:Xc)(a:Xd)(b:Xd)(q:Xc)(c:Nat)(d:Nat)(r:Xc)(s:Xc):Xe:=(G 86 [A.agg [A.sl 3 p],kG a 0,jfV b]).bind λa=>jyn a q c d r s
def jym(p:Xc)(q:Xc)(r:Xc)(s:Xc):Xe:=jjd (jdE p) (vi 0) (kIx (JN p) (vi 0) λa=>kRN p a 0 2 λa=>(G 85 [A.agg [A.sl 3 q],a]).bind λa=>jiU a λa=>jiz a 0 λb=>jiz a 1 λa=>jbW 2 b λb=>kIx (JN p) (vi 0) λc=>kRN p c 2 2 λc=>(G 85 [A.agg [A.sl 3 q],c]).bind λc=>jiU c λc=>jiz c 0 λd=>jiz c 1 λc=>jbW 2 d λd=>jnc a λa=>jhY a c λc=>kGF a (pUn .not c) λc=>kbP a (vb true) c (jcU (A.tup [A.agg [A.sl 3 r],vb false])) (kB (jdD p) (jhi p 0) none λa=>kB 0 a (some (vi 1)) λc=>kF 25 [jfV b,jfV d] λe=>kbr e (kbN (vb true) (jcU (A.tup [A.agg [A.sl 3 r],vb false])) (jq6 (nA (0+c)) (nA (jh2 a c)) p s r q)) (kF 49 [kG b 0] λe=>jdW e true λ_=>jgP e (kG d 0) λf=>ji8 e 49 [f] λf=>jhd e f (vb false) λe=>jdW e true λ_=>jgP e (kG b 0) λf=>jdW e true λ_=>jgP e (kG d 0) λg=>kGT e (jgx .lss false f g) λf=>kbP e f (vb false) (jv2 q d b r c a p s) (kF 49 [kG b 0] λe=>kbr e (jv2 q b d r c a p s) (kF 49 [kG d 0] λe=>kbr e (jv2 q d b r c a p s) (jkA (kG b 0) (kG d 0) λe=>jdW e false λ_=>jhY e (kG b 1) λf=>kGF e (jf1 f) λf=>jdW e false λ_=>jhY e (kG d 1) λg=>kGF e (jf1 g) λg=>kGF e (jgx .neq false f g) λf=>kbP e (vb true) f (jcU (A.tup [A.agg [A.sl 3 r],vb false])) (jtz (nA (0+c)) (nA (jh2 a c)) (vb true) (vi 0) (kG b 0) (kG b 1) (kG d 0) (kG d 1) p s r q []))))))) (jcU (A.tup [A.agg [A.sl 3 q],vb true]))
def jyo(b:Out)(p:Xc)(a:A)(c:Nat)(d:Nat)(q:Xc)(r:Xc):Xe:=jiU b λb=>jiz b 0 λe=>jiz b 1 λb=>jbW 1 e λe=>kbN b (jcU (A.tup [A.agg [A.sl 3 p],vb false])) (jmz (nA ((nOf a)+c)) (nA (jh2 d c)) (kG e 0) q r p)
def jv3(p:Xc)(b:Xd)(c:Xd)(q:Xc)(a:A)(d:Nat)(e:Nat)(r:Xc)(s:Xc):Xe:=(G 86 [A.agg [A.sl 3 p],kG b 0,jfV c]).bind λb=>jyo b q a d e r s
def jv4(a:A)(c:Xd)(d:Xd)(p:Xc)(b:A)(e:Nat)(f:Nat)(q:Xc)(r:Xc):Xe:=(G 86 [A.agg [a],kG c 0,jfV d]).bind λa=>jyo a p b e f q r
def jyp(a:A)(b:A)(c:A)(p:Xc)(d:A)(e:A)(f:A)(g:A)(h:A)(q:Xc)(r:Xc)(s:Xc)(t:Xc):Xe:=kLb a b (kIN 2 2 b a λi=>kIN 2 2 c a λj=>(K3 (kD (K.at 54) 104) [sv [],A.sl 2 [],sv [],A.sl 2 []] [(0,i),(1,j)]).bind λi=>jbW 4 i λi=>brn (jbk ((JN p)+(JN [[kG i 0,kG i 1,kG i 2,kG i 3]])) 80) (je0 a (vi 1) λa=>jvL (nA (nOf d)) (nA (nOf e)) f a g b h c q (jgD p [[kG i 0,kG i 1,kG i 2,kG i 3]]) r s t) none) (brn (jbk ((JN p)+(JN (jh7 q (nOf d) (nOf e)))) 80) (kbN f (jcU (A.tup [A.agg [A.sl 3 s],vb false])) (joj (jgD p (jh7 q (nOf d) (nOf e))) r s t)) none)
def jyq(a:A)(b:A)(c:A)(p:Xc)(d:A)(e:A)(f:A)(g:A)(h:A)(i:A)(q:Xc)(r:Xc)(s:Xc):Xe:=kLb a b (kIN 2 2 b a λj=>kIN 2 2 c a λk=>(K3 (kD (K.at 54) 104) [sv [],A.sl 2 [],sv [],A.sl 2 []] [(0,j),(1,k)]).bind λj=>jbW 4 j λj=>brn (jbk ((JN p)+(JN [[kG j 0,kG j 1,kG j 2,kG j 3]])) 80) (je0 a (vi 1) λa=>jvM (nA (nOf d)) (nA (nOf e)) f a g h b i c q (jgD p [[kG j 0,kG j 1,kG j 2,kG j 3]]) r s) none) (brn (jbk ((JN p)+(JN (jh7 q (nOf d) (nOf e)))) 80) (kbN f (jcU (A.tup [A.agg [A.sl 3 s],vb false])) (jpu g (jgD p (jh7 q (nOf d) (nOf e))) r s)) none)
def jv5(a:A)(b:Xd)(c:Xd)(p:Xc)(d:Nat)(e:Nat)(q:Xc)(r:Xc):Xe:=(G 86 [A.agg [a],kG b 0,jfV c]).bind λa=>jyn a p d e q r
def jyr(a:A)(b:A)(c:A)(p:Xc):Xe:=jg5 a b (kIN 2 2 c a λd=>jbW 2 d λd=>(jl5 (kG d 0) (kG d 1) p).bind λd=>kHR 1 d 0 λd=>je0 a (vi 1) λa=>jnT c b a d) (some (A.top,[A.sl 1 p]))
def jys(a:A)(b:A)(p:Xc)(c:A):Xe:=kLb a b (kIN 2 2 b a λd=>(jq1 d p).bind λd=>kHR 1 d 0 λd=>je0 a (vi 1) λa=>jnW a c b d) (some (A.top,[A.sl 1 p]))
def jyt(a:A)(b:A)(c:A):Xe:=jmL a (A.val (.int .u64 40)) λd=>(jgx .and false d (A.val (.int .u64 255))).bind λd=>(jeA .i64 d).bind λd=>some (A.top,[b,c,a,d])
def jyu(a:A)(b:A)(c:A)(d:A)(e:A)(f:A)(p:Xc):Xe:=kLb a b (kIP 1 b a λg=>kF2 24 [A.agg [c,d],A.agg [e,f],g] λg h=>jbW 2 g λg=>jvN b a h (vi 0) c d e f (kG g 0) (kG g 1) p) (jcU (A.tup [A.sl 2 p,vb true]))
def jyv(a:A)(b:A)(c:A):Xe:=jl8 a b λb=>jgP b a λa=>jgP b c λc=>kGT b (jgx .leq false a c) λa=>jhd b a (vb false) λa=>jcU a
def jyw(a:A)(b:Xd):Xe:=kbN a (jcU (A.tup [A.agg [sv [],A.sl 2 []],vb false])) (brn (ZO (kG b 0)) (brn (ZO (kG b 1)) (jcU (A.tup [jfV b,vb true])) none) none)
theorem cev:type_of% (And.intro @jbW.eq_1 (And.intro @jiz.eq_1 (And.intro @jhd.eq_1 (And.intro @jdW.eq_1 (And.intro @jh5.eq_1 (And.intro @kLN.eq_1 (And.intro @jgP.eq_1 (And.intro @jhY.eq_1 (And.intro @kGT.eq_1 (And.intro @kGF.eq_1 (And.intro @ji8.eq_1 (And.intro @jjp.eq_1 (And.intro @kF.eq_1 (And.intro @jiU.eq_1 (And.intro @kfn.eq_1 (And.intro @jnc.eq_1 (And.intro @kHD.eq_1 (And.intro @kHR.eq_1 (And.intro @kIx.eq_1 (And.intro @kB.eq_1 (And.intro @kRN.eq_1 (And.intro @kRG.eq_1 (And.intro @kIS.eq_1 (And.intro @kSl.eq_1 (And.intro @kRP.eq_1 (And.intro @kMk.eq_1 (And.intro @kRs.eq_1 (And.intro @kLS.eq_1 (And.intro @je0.eq_1 (And.intro @ji2.eq_1 (And.intro @jl8.eq_1 (And.intro @jnu.eq_1 (And.intro @joB.eq_1 (And.intro @jkO.eq_1 (And.intro @jkp.eq_1 (And.intro @jkA.eq_1 (And.intro @jrz.eq_1 (And.intro @jmL.eq_1 (And.intro @jl9.eq_1 (And.intro @kbr.eq_1 (And.intro @kbP.eq_1 (And.intro @kbN.eq_1 (And.intro @kLb.eq_1 (And.intro @kF2.eq_1 (And.intro @kFN.eq_1 (And.intro @kIN.eq_1 (And.intro @kIP.eq_1 (And.intro @jry.eq_1 (And.intro @jsO.eq_1 (And.intro @jg5.eq_1 (And.intro @joC.eq_1 (And.intro @jjd.eq_1 (And.intro @jqw.eq_1 (And.intro @jiL.eq_1 (And.intro @jnd.eq_1 (And.intro @jcU.eq_1 (And.intro @jka.eq_1 (And.intro @jfV.eq_1 (And.intro @jl1.eq_1 (And.intro @e_0.eq_1 (And.intro @e_2.eq_1 (And.intro @e_1.eq_1 (And.intro @e_3.eq_1 (And.intro @e_5.eq_1 (And.intro @e_4.eq_1 (And.intro @e_6.eq_1 (And.intro @e_7.eq_1 (And.intro @e_8.eq_1 (And.intro @e_9.eq_1 (And.intro @jx5.eq_1 (And.intro @jx7.eq_1 (And.intro @jx6.eq_1 (And.intro @jx8.eq_1 (And.intro @jx9.eq_1 (And.intro @jya.eq_1 (And.intro @jyb.eq_1 (And.intro @jyd.eq_1 (And.intro @jyc.eq_1 (And.intro @jye.eq_1 (And.intro @jyf.eq_1 (And.intro @jyg.eq_1 (And.intro @jyh.eq_1 (And.intro @jyi.eq_1 (And.intro @jyj.eq_1 (And.intro @jyk.eq_1 (And.intro @jyl.eq_1 (And.intro @jyn.eq_1 (And.intro @jv2.eq_1 (And.intro @jym.eq_1 (And.intro @jyo.eq_1 (And.intro @jv3.eq_1 (And.intro @jv4.eq_1 (And.intro @jyp.eq_1 (And.intro @jyq.eq_1 (And.intro @jv5.eq_1 (And.intro @jyr.eq_1 (And.intro @jys.eq_1 (And.intro @jyt.eq_1 (And.intro @jyu.eq_1 (And.intro @jyv.eq_1 (@jyw.eq_1))))))))))))))))))))))))))))))))))))))))))))))))))))))))))))))))))))))))))))))))))))))))))))))))))))):=And.intro @jbW.eq_1 (And.intro @jiz.eq_1 (And.intro @jhd.eq_1 (And.intro @jdW.eq_1 (And.intro @jh5.eq_1 (And.intro @kLN.eq_1 (And.intro @jgP.eq_1 (And.intro @jhY.eq_1 (And.intro @kGT.eq_1 (And.intro @kGF.eq_1 (And.intro @ji8.eq_1 (And.intro @jjp.eq_1 (And.intro @kF.eq_1 (And.intro @jiU.eq_1 (And.intro @kfn.eq_1 (And.intro @jnc.eq_1 (And.intro @kHD.eq_1 (And.intro @kHR.eq_1 (And.intro @kIx.eq_1 (And.intro @kB.eq_1 (And.intro @kRN.eq_1 (And.intro @kRG.eq_1 (And.intro @kIS.eq_1 (And.intro @kSl.eq_1 (And.intro @kRP.eq_1 (And.intro @kMk.eq_1 (And.intro @kRs.eq_1 (And.intro @kLS.eq_1 (And.intro @je0.eq_1 (And.intro @ji2.eq_1 (And.intro @jl8.eq_1 (And.intro @jnu.eq_1 (And.intro @joB.eq_1 (And.intro @jkO.eq_1 (And.intro @jkp.eq_1 (And.intro @jkA.eq_1 (And.intro @jrz.eq_1 (And.intro @jmL.eq_1 (And.intro @jl9.eq_1 (And.intro @kbr.eq_1 (And.intro @kbP.eq_1 (And.intro @kbN.eq_1 (And.intro @kLb.eq_1 (And.intro @kF2.eq_1 (And.intro @kFN.eq_1 (And.intro @kIN.eq_1 (And.intro @kIP.eq_1 (And.intro @jry.eq_1 (And.intro @jsO.eq_1 (And.intro @jg5.eq_1 (And.intro @joC.eq_1 (And.intro @jjd.eq_1 (And.intro @jqw.eq_1 (And.intro @jiL.eq_1 (And.intro @jnd.eq_1 (And.intro @jcU.eq_1 (And.intro @jka.eq_1 (And.intro @jfV.eq_1 (And.intro @jl1.eq_1 (And.intro @e_0.eq_1 (And.intro @e_2.eq_1 (And.intro @e_1.eq_1 (And.intro @e_3.eq_1 (And.intro @e_5.eq_1 (And.intro @e_4.eq_1 (And.intro @e_6.eq_1 (And.intro @e_7.eq_1 (And.intro @e_8.eq_1 (And.intro @e_9.eq_1 (And.intro @jx5.eq_1 (And.intro @jx7.eq_1 (And.intro @jx6.eq_1 (And.intro @jx8.eq_1 (And.intro @jx9.eq_1 (And.intro @jya.eq_1 (And.intro @jyb.eq_1 (And.intro @jyd.eq_1 (And.intro @jyc.eq_1 (And.intro @jye.eq_1 (And.intro @jyf.eq_1 (And.intro @jyg.eq_1 (And.intro @jyh.eq_1 (And.intro @jyi.eq_1 (And.intro @jyj.eq_1 (And.intro @jyk.eq_1 (And.intro @jyl.eq_1 (And.intro @jyn.eq_1 (And.intro @jv2.eq_1 (And.intro @jym.eq_1 (And.intro @jyo.eq_1 (And.intro @jv3.eq_1 (And.intro @jv4.eq_1 (And.intro @jyp.eq_1 (And.intro @jyq.eq_1 (And.intro @jv5.eq_1 (And.intro @jyr.eq_1 (And.intro @jys.eq_1 (And.intro @jyt.eq_1 (And.intro @jyu.eq_1 (And.intro @jyv.eq_1 (@jyw.eq_1))))))))))))))))))))))))))))))))))))))))))))))))))))))))))))))))))))))))))))))))))))))))))))))))))))
theorem jz6(r0:Xc):jsA r0=extRun K (MM K) (Go.Proofs.YthapkjbfjniaiaaGreatDoor.Abs.sfE 3) [V.row 0,V.fn 112 []] [.row 3 r0]:=jil rfl
theorem jvS(r0:Xc):jpo r0=jeO [V.row 0] [.row 1 r0]:=Eq.trans (jil (x:=jhr) rfl) rfl
theorem g10:G 10 [a,b]=jbW 2 a λa=>jbW 2 b λb=>kFN 30 [jfV a] λc=>jdW c false λ_=>jjp c 30 [jfV b] λd=>kGF c (pUn .not d) λd=>kbP c (vb true) d (jcU (A.tup [vi 0,vb false])) (kF 28 [jfV a,jfV b] λa=>jcU (A.tup [a,vb true])):=gq Tryz.func10
theorem jCB:G 100 [a,b,c,d]=jbW 2 c λc=>jbW 2 d λd=>jh5 (kG d 1) λe=>ji2 e (vi 0) λe=>jdW e true λ_=>jgP e (kG d 0) λf=>kGT e (jf2 f) λf=>kGT e (jgx .gtr false f (vi 0)) λf=>jhd e f (vb false) λe=>jdW e true λ_=>jgP e (kG d 0) λf=>kGT e (jar f (vi 0)) λf=>kGT e (jgx .geq false f (vy 65)) λf=>jhd e f (vb false) λe=>jdW e true λ_=>jgP e (kG d 0) λf=>kGT e (jar f (vi 0)) λf=>kGT e (jgx .leq false f (vy 90)) λf=>kbP e f (vb false) (kF 142 [jfV c,kG d 0] λa=>jcU a) (jm2 a b (vi 0) (kG c 0) (kG c 1) (kG d 0) (kG d 1) []):=gq Tryz.func100
theorem jwj:jm2 a b c d e f g p=kLb c g (kIN 2 2 g c λh=>kF 100 [a,b,A.agg [d,e],h] λh=>brn (ZO h) (brn (jbk ((JN p)+(JN [[h]])) 8) (je0 c (vi 1) λc=>jm2 a b c d e f g (jgD p [[h]])) none) none) (kfn true (G 101 [a,f,A.sl 1 p]) λa=>(jgx .rem false a b).bind λa=>jcU a):=hq Tryz.func100
theorem jCC:G 101 [a,b,c]=jp5 a b c (vi 17) (vi 0):=gq Tryz.func101
theorem jwk:jp5 a b c d e=kLS b λf=>jg5 e f (jkp (vi 31) d λd=>kIS b e λf=>(jeA .i64 f).bind λf=>je0 d f λd=>(jgx .rem false d (vi 65521)).bind λd=>je0 e (vi 1) λe=>jp5 a b c d e) (jp6 a c d (vi 0)):=hq Tryz.func101
theorem jwl:jp6 a b c d=kLb d b (jkp (vi 37) c λc=>kIP 1 b d λe=>je0 c e λc=>je0 c (vi 1) λc=>(jgx .rem false c (vi 65521)).bind λc=>je0 d (vi 1) λd=>jp6 a b c d) ((jgx .rem false c (vi 53)).bind λb=>kF 143 [a,b] λb=>jkp (vi 13) b λb=>je0 c b λb=>(jgx .rem false c (vi 89)).bind λc=>kF 143 [a,c] λa=>je0 b a λa=>jrz a (vi 3) λa=>jcU a):=hq Tryz.func101
theorem jBA:G 102 [a,b]=jn9 a b (vi 0):=gq Tryz.func102
theorem jqy:jn9 a b c=jh5 a λd=>jkO c d λd=>jgP d a λe=>jgP d c λf=>kGT d (zN 1 e f) λe=>kGT d (jci e) λe=>jgP d b λf=>kGT d (jgx .lss false e f) λe=>kbP d e (vb false) (je0 c (vi 1) λc=>jn9 a b c) (jh5 a λd=>jkO c d λd=>jgP d a λe=>jgP d c λf=>kGT d (zN 1 e f) λe=>kGT d (jci e) λe=>jgP d b λf=>kGT d (jgx .eql false e f) λe=>kbP d e (vb false) (jcU a) (kSl 1 a none (some c) λd=>kRs 1 d λd=>brn (jbk (JN d) 16) (brn (ZO b) (brn (jbk ((JN d)+(JN [[b]])) 16) (kSl 1 a (some c) none λa=>kRs 1 a λa=>brn (jbk ((JN (jgD d [[b]]))+(JN a)) 16) (jcU (A.sl 1 (jgD (jgD d [[b]]) a))) none) none) none) none)):=hq Tryz.func102
theorem jCD:G 103 [a]=jbW 3 a λa=>jh5 (kG a 0) λb=>kFN 83 [b,vi 1,vi 12] λb=>jdW b false λ_=>jhY b (kG a 1) λc=>kGF b (jf1 c) λc=>jdW b false λ_=>jhY b (kG a 0) λd=>kGF b (jf1 d) λd=>kGF b (jgx .neq false c d) λc=>jhd b (vb true) c λb=>jdW b false λ_=>jhY b (kG a 2) λc=>jjp b 83 [c,vi 1,vi 100] λc=>kGF b (pUn .not c) λc=>kbP b (vb true) c (jcU (vb false)) (jp7 (vi 0) (kG a 0) (kG a 1) (kG a 2)):=gq Tryz.func103
theorem jwm:jp7 a b c d=kLb a b (kIP 1 b a λe=>kFN 81 [e] λe=>jdW e false λ_=>jhY e b λf=>jhY e a λg=>kGF e (K6 1 f none (some g)) λf=>jdW e false λ_=>jhY e b λg=>jhY e a λh=>kGF e (zN 1 g h) λg=>kGF e (jci g) λg=>jjp e 51 [f,g] λf=>jhd e (vb true) f λe=>jdW e false λ_=>jhY e c λf=>jhY e a λg=>kGF e (zN 1 f g) λf=>kGF e (jci f) λf=>jdW e false λ_=>jhY e d λg=>jjp e 83 [f,g,vi 100] λf=>kGF e (pUn .not f) λf=>kbP e (vb true) f (jcU (vb false)) (je0 a (vi 1) λa=>jp7 a b c d)) (jcU (vb true)):=hq Tryz.func103
theorem jCE:G 104 [a,b]=jbW 3 a λa=>jbW 2 b λb=>kF 82 [jfV b] λc=>jdW c true λ_=>jdW c true λ_=>ji8 c 144 [jl1 a,jfV b] λa=>jhd c a (vb false) λa=>jcU a:=gq Tryz.func104
theorem jCF:G 105 [a,b,c]=kbr a (jcU (vi 1)) (kbr b (jcU (vi 2)) (kbr c (jcU (vi 3)) (jcU (vi 0)))):=gq Tryz.func105
theorem jCG:G 106 [a,b,c]=jbW 3 a λa=>jbW 2 b λb=>jbW 2 c λc=>kF 145 [jfV b,jfV c] λd=>kbN d (jcU (vb false)) (kF 146 [jl1 a,jfV b] λd=>kF 146 [jl1 a,jfV c] λe=>jnd d e (jnu d e λa=>jcU a) (kF 49 [kG b 0] λd=>jdW d false λ_=>jhY d (kG c 0) λe=>jjp d 49 [e] λe=>kbP d (vb true) e (jcU (vb false)) (kF 147 [jl1 a,jfV b,jfV c] λd=>jnd d (vi 0) (jnu d (vi 0) λa=>jcU a) (kF 148 [jfV b,jfV c] λd=>jl8 d (vi 0) λe=>jdW e true λ_=>jdW e true λ_=>jgP e (kG b 1) λb=>jgP e d λf=>kGT e (zN 2 b f) λb=>kGT e (jch 2 b) λb=>jdW e true λ_=>jgP e (kG c 1) λc=>jgP e d λd=>kGT e (zN 2 c d) λc=>kGT e (jch 2 c) λc=>ji8 e 106 [jl1 a,b,c] λa=>jhd e a (vb false) λa=>jcU a)))):=gq Tryz.func106
theorem jCH:G 108 [a,b]=jh5 a λc=>jp8 a b c (vi 0):=gq Tryz.func108
theorem jwn:jp8 a b c d=jg5 d c (kIP 1 a d λe=>jiL b e (jcU d) (je0 d (vi 1) λd=>jp8 a b c d)) (jcU (vi (- 1))):=hq Tryz.func108
theorem jCI:G 109 [a,b]=jbW 2 b λb=>kF 138 [jfV b,a] λa=>jnu a (vi 0) λa=>jcU a:=gq Tryz.func109
theorem jCJ:G 110 [a]=jbW 1 a λa=>jh5 (kG a 0) λb=>jp9 (kG a 0) b (vi 0) (kG a 0):=gq Tryz.func110
theorem jwo:jp9 a b c d=jg5 c b (kIN 3 3 a c λe=>jbW 3 e λe=>kFN 88 [kG e 0] λf=>jhY f c λg=>kGF f (jgx .gtr false g (vi 0)) λg=>jhY f g λg=>jdW g true λ_=>jgP g (kG e 0) λh=>jdW g true λ_=>jgP g d λi=>jgP g c λj=>kGT g (jgx .sub false j (vi 1)) λj=>kGT g (zN 3 i j) λi=>kGT g (jgw i 0) λi=>kGT g (jci i) λi=>kGT g (jgx .leq false h i) λh=>kGF f (jf3 g h (vb false)) λg=>jhd f (vb true) g λf=>jdW f false λ_=>jdW f false λ_=>jjp f 30 [A.agg [kG e 1,kG e 2]] λg=>kGF f (pUn .not g) λg=>jhd f (vb true) g λf=>jdW f false λ_=>jdW f false λ_=>jhY f (kG e 1) λg=>jdW f false λ_=>jhY f (kG e 0) λe=>kGF f (jgx .eql false g e) λe=>kbP f (vb true) e (jcU (vb false)) (je0 c (vi 1) λc=>jp9 a b c d)) (jh5 d λa=>joB a (vi 12) λa=>jcU a):=hq Tryz.func110
theorem jCK:G 112 [a,b]=jbW 3 a λa=>jbW 3 b λb=>kF 113 [kG a 0,kG b 0] λa=>jcU a:=gq Tryz.func112
theorem jCL:G 113 [a,b]=kF 151 [a] λc=>kF 151 [b] λd=>kbr c (kbr d (jcU (vi 0)) (jcU (vi (- 1)))) (kbr d (jcU (vi 1)) (jg5 a b (jcU (vi (- 1))) (jjd a b (jcU (vi 1)) (jcU (vi 0))))):=gq Tryz.func113
theorem jCM:G 114 [a,b,c]=jh5 a λd=>joa a b c d (vi 0) d:=gq Tryz.func114
theorem jwp:joa a b c d e f=jg5 e f (je0 e f λg=>(jeA .u64 g).bind λg=>jmL g (A.val (.int .u64 1)) λg=>(jeA .i64 g).bind λg=>kIN 3 3 a g λh=>(DX.run K (MM K) (.callc c [h,b] false)).bind λh=>jg5 h (vi 0) (je0 g (vi 1) λe=>joa a b c d e f) (joa a b c d e g)) (jkO e d λd=>jgP d c λc=>jgP d a λa=>jgP d e λf=>kGT d (zN 3 a f) λa=>kGT d (jch 3 a) λa=>jgP d b λb=>kGT d (DX.run K (MM K) (.callc c [a,b] false)) λa=>kGT d (jgx .eql false a (vi 0)) λa=>jhd d a (vb false) λa=>jcU (A.tup [e,a])):=hq Tryz.func114
theorem jCN:G 115 [a,b]=jbW 3 a λa=>kF 113 [kG a 0,b] λa=>jcU a:=gq Tryz.func115
theorem jz7:jp3 a=jh5 a λb=>jiL b (vi 0) (some (A.top,[A.sl 2 []])) (jh5 a λb=>kMk 40 b b λb=>jh5 a λc=>jmv a c (vi 0) (jck b [sv [],A.sl 2 []])):=vq Tryz.func116
theorem jrB:jmv a b c p=jg5 c b (kIN 2 2 a c λd=>jbW 2 d λd=>kF 76 [jfV d] λd=>kIx (JN p) c λe=>jbW 2 d λd=>kRG p e λf=>je0 c (vi 1) λc=>jmv a b c (jat p e (Z4 f 0 [kG d 0,kG d 1]))) (some (A.top,[A.sl 2 p])):=hq Tryz.func116
theorem jCO:G 117 [a,b]=jbW 2 a λa=>jqa b (vi 1) (vi 0) (kG a 0) (kG a 1):=gq Tryz.func117
theorem jsQ:jqa a b c d e=jh5 e λf=>jkO c f λf=>jgP f b λg=>jgP f a λh=>kGT f (jgx .leq false g h) λg=>kbP f g (vb false) (kIN 2 2 e c λf=>jl9 a b λg=>kF 117 [f,g] λf=>je0 b f λb=>je0 c (vi 1) λc=>jqa a b c d e) (jcU b):=hq Tryz.func117
theorem jCP:G 118 [a]=jbW 2 a λa=>jqb (vi 0) (vi 0) (kG a 0) (kG a 1):=gq Tryz.func118
theorem jwq:jqb a b c d=kLb b d (kIN 2 2 d b λe=>kF 118 [e] λe=>kF 152 [a,e] λa=>je0 b (vi 1) λb=>jqb a b c d) (je0 a (vi 1) λa=>jcU a):=hq Tryz.func118
theorem jCQ:G 119 [a]=jbW 1 a λa=>jqc (vi 0) (kG a 0):=gq Tryz.func119
theorem jwr:jqc a b=kLb a b (kIN 3 3 b a λc=>jbW 3 c λc=>kFN 49 [kG c 0] λd=>jdW d false λ_=>jdW d false λ_=>jjp d 82 [A.agg [kG c 1,kG c 2]] λe=>kGF d (pUn .not e) λe=>jhd d (vb true) e λd=>jdW d false λ_=>jdW d false λ_=>jhY d (kG c 1) λe=>jdW d false λ_=>jhY d (kG c 0) λf=>kGF d (jgx .eql false e f) λe=>jhd d (vb true) e λd=>jhY d a λe=>kGF d (jgx .gtr false e (vi 0)) λe=>jhY d e λe=>jdW e true λ_=>jgP e b λf=>jgP e a λg=>kGT e (jgx .sub false g (vi 1)) λg=>kGT e (zN 3 f g) λf=>kGT e (jgw f 0) λf=>kGT e (jci f) λf=>jdW e true λ_=>jgP e (kG c 0) λc=>kGT e (jgx .geq false f c) λc=>kGF d (jf3 e c (vb false)) λc=>kbP d (vb true) c (jcU (vb false)) (je0 a (vi 1) λa=>jqc a b)) (jh5 b λa=>joB a (vi 12) λa=>jcU a):=hq Tryz.func119
theorem jBb:jte a b c=(jlj (vi 3) a b c).bind λa=>kHD a 0 λb=>kHD a 1 λc=>kHD a 2 λd=>kHD a 3 λe=>kHR 2 a 4 λa=>(jlj (vi 2) b c d).bind λb=>kHD b 0 λc=>kHD b 1 λd=>kHD b 2 λf=>kHD b 3 λg=>kHR 2 b 4 λb=>brn (ZO e) (brn (ZO g) ((jpl (vi 3) c d f).bind λc=>kHD c 0 λd=>kHD c 1 λf=>kHD c 2 λh=>kHD c 3 λc=>kbr c ((jpm d f h [[sv [97]],[sv [98]],[sv [88]],[sv [89]]]).bind λb=>kHD b 0 λc=>kHD b 1 λd=>kHD b 2 λf=>kHD b 3 λb=>brn (ZO b) (brn (ZO b) (kfn true (G 33 [A.agg [e,A.sl 2 a],A.agg [b,A.sl 2 []]]) λg=>jiL g (vi 3) (brn (ZO b) (brn (ZO e) (some (A.top,[c,d,f,A.agg [sv [61],A.sl 2 [[b,A.sl 2 []],[e,A.sl 2 a]]]])) none) none) (brn (ZO e) (brn (ZO b) (some (A.top,[c,d,f,A.agg [sv [61],A.sl 2 [[e,A.sl 2 a],[b,A.sl 2 []]]]])) none) none)) none) none) (kfn true (G 33 [A.agg [e,A.sl 2 a],A.agg [g,A.sl 2 b]]) λc=>jiL c (vi 3) (e_0 g e d f h b a) (e_0 e g d f h a b))) none) none:=vq Tryz.func11
theorem jCR:G 120 [a]=jbW 2 a λa=>kF 82 [jfV a] λb=>jdW b false λ_=>jjp b 48 [jfV a] λa=>jhd b (vb true) a λa=>jcU a:=gq Tryz.func120
theorem jCS:G 121 [a]=jbW 2 a λa=>kF 153 [A.sl 1 [],jfV a] λa=>jcU a:=gq Tryz.func121
theorem jCT:G 122 [a,b]=jbW 1 a λa=>jbW 1 b λb=>kFN 119 [jka a] λc=>jdW c false λ_=>jjp c 119 [jka b] λd=>kGF c (pUn .not d) λd=>kbP c (vb true) d (jcU (A.tup [A.agg [A.sl 3 []],vb false])) (kF 154 [jka a,jka b] λa=>jbW 1 a λa=>kF 119 [jka a] λb=>kbN b (jcU (A.tup [A.agg [A.sl 3 []],vb false])) (brn (ZO (kG a 0)) (jcU (A.tup [jka a,vb true])) none)):=gq Tryz.func122
theorem jz8:jsB a b c p=brn (ZO b) (brn (ZO c) (jiL b a (some (A.top,[A.sl 3 p])) (job a (vi 0) b c p [])) none) none:=vq Tryz.func123
theorem jws:job a b c d p q=jkO b (jdE p) λe=>jdW e true λ_=>jdW e true λ_=>jgP e b λf=>jdW e true λg=>brn g (kIx (JN p) f λf=>jdW e true λ_=>kGT e (jf6 p f 0) λf=>e_1 e a f b c d p q) (kGT e (jgw (A.val undef) 0) λf=>kGT e (jci f) λf=>e_1 e a f b c d p q):=hq Tryz.func123
theorem jz9:jp4 a b p=jbW 2 b λb=>jiL (kG b 0) a (some (A.top,[A.sl 3 p])) (jlm a (vi 0) (kG b 0) (kG b 1) p []):=vq Tryz.func123
theorem joD:jlm a b c d p q=jkO b (jdE p) λe=>jdW e true λ_=>jdW e true λ_=>jgP e b λf=>jdW e true λg=>brn g (kIx (JN p) f λf=>jdW e true λ_=>kGT e (jf6 p f 0) λf=>e_3 e a f b c d p q) (kGT e (jgw (A.val undef) 0) λf=>kGT e (jci f) λf=>e_3 e a f b c d p q):=hq Tryz.func123
theorem jBc:jpl a b c d=(jth a b c d).bind λa=>kHD a 0 λb=>kHD a 1 λc=>kHD a 2 λd=>kHD a 3 λa=>ji2 a (vi 0) λa=>some (A.top,[b,c,d,a]):=vq Tryz.func12
theorem g13:G 13 [a]=jbW 2 a λa=>brn (ZO (kG a 0)) (brn (ZO (kG a 0)) (jtl (vi 0) (kG a 0) (kG a 1) (sv []) (kG a 0) [] []) none) none:=gq Tryz.func13
theorem jzh:jtl a b c d e p q=kLb a c (kIN 2 2 c a λf=>(G 13 [f]).bind λf=>jiU f λf=>jbW 2 f λf=>brn (jbk ((JN q)+(JN [[kG f 0,kG f 1]])) 40) (je0 a (vi 1) λa=>jtl a b c d e p (jgD q [[kG f 0,kG f 1]])) none) (brn (ZO e) (jcU (A.agg [e,A.sl 2 q])) none):=hq Tryz.func13
theorem jCU:G 136 [a,b]=(jgx .and false a (A.val (.int .u64 4294967295))).bind λc=>jmL a (A.val (.int .u64 32)) λd=>(jgx .and false b (A.val (.int .u64 4294967295))).bind λe=>jmL b (A.val (.int .u64 32)) λf=>jkp c e λg=>jkp d e λe=>jmL g (A.val (.int .u64 32)) λg=>je0 e g λe=>(jgx .and false e (A.val (.int .u64 4294967295))).bind λg=>jmL e (A.val (.int .u64 32)) λe=>jkp c f λc=>je0 g c λc=>jkp d f λd=>je0 d e λd=>jmL c (A.val (.int .u64 32)) λc=>je0 d c λc=>jkp a b λa=>jcU (A.tup [c,a]):=gq Tryz.func136
theorem jCV:G 137 [a]=jbW 2 a λa=>(jmt (kG a 0) (kG a 1) []).bind λa=>kHR 1 a 0 λa=>(jpo a).bind λa=>kHR 1 a 0 λa=>jcU (A.sl 1 a):=gq Tryz.func137
theorem jCW:G 138 [a,b]=jbW 2 a λa=>jiL (kG a 0) b (jh5 (kG a 1) λc=>joc b (vi 1) (kG a 1) c (vi 0)) (jh5 (kG a 1) λc=>joc b (vi 0) (kG a 1) c (vi 0)):=gq Tryz.func138
theorem jwt:joc a b c d e=jg5 e d (kIN 2 2 c e λf=>jbW 2 f λf=>kF 138 [jfV f,a] λf=>je0 b f λb=>je0 e (vi 1) λe=>joc a b c d e) (jcU b):=hq Tryz.func138
theorem jCX:G 139 [a,b]=jbW 3 a λa=>jbW 2 b λb=>kF 41 [jfV b] λc=>kbr c (jcU (kG a 2)) (kF 108 [kG a 0,kG b 0] λc=>kIP 1 (kG a 1) c λc=>jh5 (kG b 1) λd=>jqd c (kG b 1) d (vi 0) (kG a 0) (kG a 1) (kG a 2)):=gq Tryz.func139
theorem jwu:jqd a b c d e f g=jg5 d c (kIN 2 2 b d λh=>jbW 2 h λh=>kF 139 [A.agg [e,f,g],jfV h] λh=>je0 a h λa=>je0 d (vi 1) λd=>jqd a b c d e f g) (jcU a):=hq Tryz.func139
theorem jBd:jtf a b=brn (ZO a) (brn (ZO b) (brn (ZO a) (brn (ZO a) (jnO (vi 0) a b (sv []) a [] []) none) none) none) none:=vq Tryz.func13
theorem jtW:jnO a b c d e p q=kLb a c (kIN 2 2 c a λf=>(G 13 [f]).bind λf=>jiU f λf=>jbW 2 f λf=>brn (jbk ((JN q)+(JN [[kG f 0,kG f 1]])) 40) (je0 a (vi 1) λa=>jnO a b c d e p (jgD q [[kG f 0,kG f 1]])) none) (brn (ZO e) (some (A.top,[e,A.sl 2 q])) none):=hq Tryz.func13
theorem g14:G 14 [a,b]=jbW 2 a λa=>kFN 35 [jfV a] λc=>jhY c b λd=>kGF c (jf2 d) λd=>kGF c (jgx .neq false d (vi 1)) λd=>jhd c (vb true) d λc=>jhY c b λd=>kGF c (jar d (vi 0)) λd=>jjp c 36 [d] λd=>kGF c (pUn .not d) λd=>kbP c (vb true) d (jcU (A.tup [A.agg [sv [],A.sl 2 []],vb false])) ((jmt (kG a 0) (kG a 1) []).bind λc=>kHR 1 c 0 λc=>(G 38 [A.sl 1 c,b]).bind λb=>jiU b λb=>(jpn (jfV a) b).bind λa=>kHD a 0 λb=>kHR 66 a 1 λa=>brn (zY b) (brn (ZO b) (jcU (A.tup [A.agg [b,A.sl 2 a],vb true])) none) none):=gq Tryz.func14
theorem jCY:G 140 [a,b,c]=jbW 3 a λa=>jbW 2 b λb=>jbW 2 c λc=>kF 108 [kG a 0,kG b 0] λd=>kF 108 [kG a 0,kG c 0] λa=>jkO d a λe=>jhY e d λd=>jhY e a λa=>kGF e (jgx .eql false d a) λa=>jhY e a λa=>jdW a true λ_=>jgP a (kG b 1) λb=>kGT a (jf1 b) λb=>jdW a true λ_=>jgP a (kG c 1) λc=>kGT a (jf1 c) λc=>kGT a (jgx .lss false b c) λb=>kGF e (jf3 a b (vb false)) λa=>jhd e (vb true) a λa=>jcU a:=gq Tryz.func140
theorem jBB:G 141 [a,b]=jbW 2 a λa=>jbW 2 b λb=>jkA (kG a 0) (kG b 0) λc=>jdW c false λ_=>jhY c (kG a 1) λd=>kGF c (jf1 d) λd=>jdW c false λ_=>jhY c (kG b 1) λe=>kGF c (jf1 e) λe=>kGF c (jgx .neq false d e) λd=>kbP c (vb true) d (jcU (A.tup [A.agg [sv [],A.sl 2 []],A.agg [sv [],A.sl 2 []],vb false])) (jh5 (kG a 1) λc=>jqe (kG a 1) c (vi 0) (kG b 0) (kG b 1) (sv []) (sv []) [] []):=gq Tryz.func141
theorem jwv:jqe a b c d e f g p q=jg5 c b (kIN 2 2 a c λh=>jbW 2 h λh=>kIN 2 2 e c λi=>kF 19 [jfV h,i] λi=>kbN i (kIN 2 2 e c λa=>brn (ZO (kG h 0)) (brn (ZO (kG h 1)) (jbW 2 a λa=>jcU (A.tup [jfV h,jfV a,vb true])) none) none) (je0 c (vi 1) λc=>jqe a b c d e f g p q)) (jcU (A.tup [A.agg [sv [],A.sl 2 []],A.agg [sv [],A.sl 2 []],vb false])):=hq Tryz.func141
theorem jCZ:G 142 [a,b]=jbW 2 a λa=>jh5 (kG a 0) λc=>jl9 c (vi 1) λc=>jqf b c (kG a 0) (kG a 1):=gq Tryz.func142
theorem jww:jqf a b c d=jqw b (vi 0) (kIP 1 c b λe=>jiL e a (kIP 1 d b λa=>jcU a) (jl9 b (vi 1) λb=>jqf a b c d)) (jcU (vi 0)):=hq Tryz.func142
theorem jC0:G 143 [a,b]=kLb b a (kIP 1 a b λa=>(jeA .i64 a).bind λa=>jcU a) (jkp b (vi 7) λb=>jh5 a λa=>je0 b a λa=>(jgx .rem false a (vi 256)).bind λa=>jcU a):=gq Tryz.func143
theorem jC1:G 144 [a,b]=jbW 3 a λa=>jbW 2 b λb=>kFN 49 [kG b 0] λc=>jdW c true λ_=>jdW c true λ_=>jgP c (kG b 0) λd=>ji8 c 160 [jl1 a,d] λd=>kGT c (jgx .lss false d (vi 0)) λd=>kbP c d (vb false) (jcU (vb false)) (jqg (vi 0) (kG a 0) (kG a 1) (kG a 2) (kG b 0) (kG b 1)):=gq Tryz.func144
theorem jwx:jqg a b c d e f=kLb a f (kIN 2 2 f a λg=>kF 144 [A.agg [b,c,d],g] λg=>kbN g (jcU (vb false)) (je0 a (vi 1) λa=>jqg a b c d e f)) (jcU (vb true)):=hq Tryz.func144
theorem jC2:G 145 [a,b]=jbW 2 a λa=>jbW 2 b λb=>kF 121 [jfV b] λc=>jqh c (vi 0) (kG a 0) (kG a 1) (kG b 0) (kG b 1):=gq Tryz.func145
theorem jwy:jqh a b c d e f=kLb b a (kIP 1 a b λg=>kF 161 [A.agg [c,d],g] λg=>kIP 1 a b λh=>kF 161 [A.agg [e,f],h] λh=>jg5 g h (jcU (vb false)) (je0 b (vi 1) λb=>jqh a b c d e f)) (jcU (vb true)):=hq Tryz.func145
theorem jC3:G 146 [a,b]=jbW 3 a λa=>jbW 2 b λb=>kF 49 [kG b 0] λc=>kbN c (kF 160 [jl1 a,kG b 0] λc=>kIP 1 (kG a 1) c λc=>jod c (vi 0) (kG a 0) (kG a 1) (kG a 2) (kG b 0) (kG b 1)) (jod (kG a 2) (vi 0) (kG a 0) (kG a 1) (kG a 2) (kG b 0) (kG b 1)):=gq Tryz.func146
theorem jwz:jod a b c d e f g=kLb b g (kIN 2 2 g b λh=>kF 146 [A.agg [c,d,e],h] λh=>je0 a h λa=>je0 b (vi 1) λb=>jod a b c d e f g) (jcU a):=hq Tryz.func146
theorem jC4:G 147 [a,b,c]=jbW 3 a λa=>jbW 2 b λb=>jbW 2 c λc=>kF 160 [jl1 a,kG b 0] λd=>kF 160 [jl1 a,kG c 0] λa=>jiL d a (jh5 (kG b 1) λa=>jh5 (kG c 1) λb=>jg5 a b (jcU (vi (- 1))) (jjd a b (jcU (vi 1)) (jcU (vi 0)))) (jg5 d a (jcU (vi (- 1))) (jjd d a (jcU (vi 1)) (jcU (vi 0)))):=gq Tryz.func147
theorem jC5:G 148 [a,b]=jbW 2 a λa=>jbW 2 b λb=>joe (vi 0) (kG a 0) (kG a 1) (kG b 0) (kG b 1):=gq Tryz.func148
theorem jwA:joe a b c d e=kLb a c (kIN 2 2 c a λf=>kIN 2 2 e a λg=>kF 25 [f,g] λf=>kbN f (jcU a) (je0 a (vi 1) λa=>joe a b c d e)) (jcU (vi (- 1))):=hq Tryz.func148
theorem jBe:jvy a b=jbW 2 a λa=>kFN 35 [jfV a] λc=>jhY c b λd=>kGF c (jf2 d) λd=>kGF c (jgx .neq false d (vi 1)) λd=>jhd c (vb true) d λc=>jhY c b λd=>kGF c (jar d (vi 0)) λd=>jjp c 36 [d] λd=>kGF c (pUn .not d) λd=>kbP c (vb true) d (some (A.top,[sv [],vb false,A.sl 66 []])) ((jmt (kG a 0) (kG a 1) []).bind λc=>kHR 1 c 0 λc=>(G 38 [A.sl 1 c,b]).bind λb=>jiU b λb=>(jpn (jfV a) b).bind λa=>kHD a 0 λb=>kHR 66 a 1 λa=>brn (zY b) (brn (ZO b) (some (A.top,[b,vb true,A.sl 66 a])) none) none):=vq Tryz.func14
theorem g15:G 15 [a]=jbW 2 a λa=>jh5 (kG a 1) λb=>jq2 (kG a 1) b (vi 0) [[A.sl 1 []]]:=gq Tryz.func15
theorem jzi:jq2 a b c p=jg5 c b (kIN 2 2 a c λd=>jbW 2 d λd=>kF 15 [jfV d] λd=>jh5 d λe=>jtm c a b c d e (vi 0) p) (jcU (A.sl 1 p)):=hq Tryz.func15
theorem jzj:jtm a b c d e f g p=jg5 g f (kIP 1 e g λh=>brn (ZO a) (kRs 1 h λh=>brn (jbk ((JN [[a]])+(JN h)) 8) (brn (jbk ((JN p)+(JN [[A.sl 1 (jgD [[a]] h)]])) 24) (je0 g (vi 1) λg=>jtm a b c d e f g (jgD p [[A.sl 1 (jgD [[a]] h)]])) none) none) none) (je0 d (vi 1) λa=>jq2 b c a p):=hq Tryz.func15
theorem jBC:G 151 [a]=jkA a a λa=>jcU a:=gq Tryz.func151
theorem jC6:G 152 [a,b]=jjd a b (jcU a) (jcU b):=gq Tryz.func152
theorem jC7:G 153 [a,b]=jbW 2 b λb=>kF 49 [kG b 0] λc=>kbr c (kF 102 [a,kG b 0] λa=>jcU a) (jqi a (vi 0) (kG b 0) (kG b 1)):=gq Tryz.func153
theorem jwB:jqi a b c d=kLb b d (kIN 2 2 d b λe=>kF 153 [a,e] λa=>je0 b (vi 1) λb=>jqi a b c d) (jcU a):=hq Tryz.func153
theorem jC8:G 154 [a,b]=jbW 1 a λa=>jbW 1 b λb=>jqj (vi 0) (kG a 0) (kG b 0) [] []:=gq Tryz.func154
theorem jwC:jqj a b c p q=kLb a b (jsO 3 b a 0 λd=>jry 2 3 b a 1 λe=>(G 55 [A.agg [c],e]).bind λe=>jiU e λe=>(jp4 d e q).bind λd=>kHR 3 d 0 λd=>je0 a (vi 1) λa=>jqj a b c p d) (jof (vi 0) b c p q):=hq Tryz.func154
theorem jwD:jof a b c p q=kLb a c (jsO 3 c a 0 λd=>kF 87 [A.agg [b],d] λd=>jg5 d (vi 0) (jsO 3 c a 0 λd=>jry 2 3 c a 1 λe=>(jp4 d e q).bind λd=>kHR 3 d 0 λd=>je0 a (vi 1) λa=>jof a b c p d) (je0 a (vi 1) λa=>jof a b c p q)) (jcU (A.agg [A.sl 3 q])):=hq Tryz.func154
theorem jC9:G 160 [a,b]=jbW 3 a λa=>jqk b (vi 0) (kG a 0) (kG a 1) (kG a 2):=gq Tryz.func160
theorem jwE:jqk a b c d e=kLb b c (kIP 1 c b λf=>jiL f a (jcU b) (je0 b (vi 1) λb=>jqk a b c d e)) (jcU (vi (- 1))):=hq Tryz.func160
theorem jDa:G 161 [a,b]=jbW 2 a λa=>jiL (kG a 0) b (jog b (vi 1) (vi 0) (kG a 0) (kG a 1)) (jog b (vi 0) (vi 0) (kG a 0) (kG a 1)):=gq Tryz.func161
theorem jwF:jog a b c d e=kLb c e (kIN 2 2 e c λf=>kF 161 [f,a] λf=>je0 b f λb=>je0 c (vi 1) λc=>jog a b c d e) (jcU b):=hq Tryz.func161
theorem jBf:jqZ a b c=jbW 2 a λa=>jbW 2 b λb=>kIN 2 2 (kG b 1) (vi 0) λd=>kF2 40 [d,c] λd _=>jbW 2 d λd=>kF 41 [jfV d] λe=>kbr e (some (A.top,[sv [],vb false,A.sl 66 []])) (kIN 2 2 (kG a 1) (vi 0) λe=>kF2 42 [jfV d,e] λd e=>jbW 1 d λd=>kbN e (some (A.top,[sv [],vb false,A.sl 66 []])) (kIN 2 2 (kG b 1) (vi 0) λe=>kIN 2 2 (kG a 1) (vi 1) λa=>kF 44 [e,c,a] λa=>kF 43 [jka d,a] λa=>jbW 2 a λa=>kIN 2 2 (kG b 1) (vi 1) λb=>kF 43 [jka d,b] λb=>brn (ZO (kG a 0)) (brn (ZO (kG a 1)) (jbW 2 b λb=>kfn true (G 45 [A.agg [sv [61],A.sl 2 [[kG a 0,kG a 1],[kG b 0,kG b 1]]]]) λc=>jnc c λc=>jdW c false λ_=>jdW c false λ_=>jdW c false λd=>brn d (kIx (JN [[kG a 0,kG a 1],[kG b 0,kG b 1]]) (vi 0) λd=>kGF c (jf5 [[kG a 0,kG a 1],[kG b 0,kG b 1]] d 0 2) λd=>e_4 c a b d) (kGF c (jch 2 (A.val undef)) λd=>e_4 c a b d)) none) none)):=vq Tryz.func16
theorem g17:G 17 [a,b]=kF 46 [a,b] λa=>jl8 a (vi 0) λa=>jcU a:=gq Tryz.func17
theorem g18:G 18 [a,b]=jbW 2 a λa=>kLN 2 b λb=>kF 19 [jfV a,b] λa=>jcU a:=gq Tryz.func18
theorem g19:G 19 [a,b]=jbW 2 a λa=>jbW 2 b λb=>ji2 (kG a 0) (kG b 0) λc=>jdW c true λ_=>jgP c (kG a 1) λa=>jdW c true λ_=>jgP c (kG b 1) λb=>ji8 c 47 [a,b,A.fn 19 []] λa=>jhd c a (vb false) λa=>jcU a:=gq Tryz.func19
theorem g20:G 20 [a]=jbW 2 a λa=>kF 48 [jfV a] λb=>jdW b true λ_=>jgP b (kG a 0) λc=>kGT b (jgx .eql false c (sv [61])) λc=>jhd b c (vb false) λb=>jdW b true λ_=>jgP b (kG a 1) λc=>kGT b (zN 2 c (vi 0)) λc=>kGT b (jch 2 c) λc=>jdW b true λ_=>jgP b (kG a 1) λa=>kGT b (zN 2 a (vi 1)) λa=>kGT b (jch 2 a) λa=>ji8 b 33 [c,a] λa=>kGT b (jgx .eql false a (vi 2)) λa=>jhd b a (vb false) λa=>jcU a:=gq Tryz.func20
theorem g21:G 21 [a,b,c]=jbW 2 a λa=>kF 49 [kG a 0] λd=>kbr d (jtn b c (vi 0) (kG a 0) (kG a 1) (sv []) []) (brn (ZO (kG a 0)) (brn (ZO (kG a 0)) (jto b c (vi 0) (kG a 0) (kG a 1) (sv []) (kG a 0) [] []) none) none):=gq Tryz.func21
theorem jzk:jtn a b c d e f p=kLb c a (kIP 1 a c λg=>jiL g d (kF 50 [c] λa=>je0 b a λa=>e_6 a) (je0 c (vi 1) λc=>jtn a b c d e f p)) (e_6 d):=hq Tryz.func21
theorem jzl:jto a b c d e f g p q=kLb c e (kIN 2 2 e c λh=>(G 21 [h,a,b]).bind λh=>jiU h λh=>jbW 2 h λh=>brn (jbk ((JN q)+(JN [[kG h 0,kG h 1]])) 40) (je0 c (vi 1) λc=>jto a b c d e f g p (jgD q [[kG h 0,kG h 1]])) none) (brn (ZO g) (jcU (A.agg [g,A.sl 2 q])) none):=hq Tryz.func21
theorem jBg:jtg a b p=brn (ZO a) (brn (ZO b) (kF 49 [a] λc=>kbr c (kfn true (G 51 [A.sl 1 p,a]) λb=>kbr b (some (A.top,[A.sl 1 p])) (e_7 a p)) (jql (vi 0) a b p)) none) none:=vq Tryz.func22
theorem jyF:jql a b c p=e_8 a c p b:=hq Tryz.func22
theorem jqz:jnP a b c p=e_8 a c p b:=hq Tryz.func22
theorem jBh:jvz a p q=brn (ZO a) (kF 49 [a] λb=>kbr b (kfn true (G 51 [A.sl 1 q,a]) λb=>kbr b (some (A.top,[A.sl 2 p,A.sl 1 q])) (brn (ZO a) (brn (jbk ((JN q)+(JN [[a]])) 16) (some (A.top,[A.sl 2 p,A.sl 1 (jgD q [[a]])])) none) none)) (jqm (vi 0) a q p)) none:=vq Tryz.func22
theorem jyG:jqm a b p q=e_9 a q p b:=hq Tryz.func22
theorem jtX:jnQ a b p q=e_9 a q p b:=hq Tryz.func22
theorem jBi:jq0 a p=jbW 2 a λa=>kF 49 [kG a 0] λb=>kbr b (kfn true (G 51 [A.sl 1 p,kG a 0]) λb=>kbr b (some (A.top,[A.sl 1 p])) (brn (ZO (kG a 0)) (brn (jbk ((JN p)+(JN [[kG a 0]])) 16) (some (A.top,[A.sl 1 (jgD p [[kG a 0]])])) none) none)) (jnR (vi 0) (kG a 0) (kG a 1) p):=vq Tryz.func22
theorem jyH:jnR a b c p=jx5 a c p b:=hq Tryz.func22
theorem jqA:jnS a b c p=jx5 a c p b:=hq Tryz.func22
theorem g23:G 23 [a,b]=jbW 2 a λa=>(jti b).bind λc=>kHR 1 c 0 λc=>jtp b (vi 0) (kG a 0) (kG a 1) [[A.sl 1 c]]:=gq Tryz.func23
theorem jzm:jtp a b c d p=kLb b d (kIN 2 2 d b λe=>(jti a).bind λf=>kHR 1 f 0 λf=>brn (ZO b) (brn (jbk ((JN f)+(JN [[b]])) 8) ((G 23 [e,A.sl 1 (jgD f [[b]])]).bind λe=>jiU e λe=>kRs 1 e λe=>brn (jbk ((JN p)+(JN e)) 24) (je0 b (vi 1) λb=>jtp a b c d (jgD p e)) none) none) none) (jcU (A.sl 1 p)):=hq Tryz.func23
theorem g24:G 24 [a,b,c]=jbW 2 a λa=>jbW 2 b λb=>kIN 2 2 (kG b 1) (vi 0) λd=>kF2 53 [d,c] λd e=>jbW 2 d λd=>jnc e λe=>jdW e false λ_=>jhY e (kG d 0) λf=>jjp e 49 [f] λf=>kbP e (vb true) f (jcU (A.tup [A.agg [sv [],A.sl 2 []],vb false])) (kIN 2 2 (kG a 1) (vi 0) λe=>kF2 54 [e,jfV d] λd e=>jbW 1 d λd=>kbN e (jcU (A.tup [A.agg [sv [],A.sl 2 []],vb false])) (kIN 2 2 (kG b 1) (vi 0) λe=>kIN 2 2 (kG a 1) (vi 1) λa=>kF 56 [e,c,a] λa=>(G 55 [jka d,a]).bind λa=>jiU a λa=>kIN 2 2 (kG b 1) (vi 1) λb=>(G 55 [jka d,b]).bind λb=>jiU b λb=>jbW 2 a λa=>jbW 2 b λb=>kfn true (G 48 [A.agg [sv [61],A.sl 2 [[kG a 0,kG a 1],[kG b 0,kG b 1]]]]) λc=>jnc c λc=>jdW c false λ_=>jdW c false λ_=>jdW c false λd=>brn d (kIx (JN [[kG a 0,kG a 1],[kG b 0,kG b 1]]) (vi 0) λd=>kGF c (jf5 [[kG a 0,kG a 1],[kG b 0,kG b 1]] d 0 2) λd=>jx6 c a b d) (kGF c (jch 2 (A.val undef)) λd=>jx6 c a b d))):=gq Tryz.func24
theorem g25:G 25 [a,b]=jbW 2 a λa=>jbW 2 b λb=>jkA (kG a 0) (kG b 0) λc=>jdW c false λ_=>jhY c (kG a 1) λd=>kGF c (jf1 d) λd=>jdW c false λ_=>jhY c (kG b 1) λe=>kGF c (jf1 e) λe=>kGF c (jgx .neq false d e) λd=>kbP c (vb true) d (jcU (vb false)) (jtq (vi 0) (kG a 0) (kG a 1) (kG b 0) (kG b 1)):=gq Tryz.func25
theorem jzn:jtq a b c d e=kLb a c (kIN 2 2 c a λf=>kIN 2 2 e a λg=>kF 25 [f,g] λf=>kbN f (jcU (vb false)) (je0 a (vi 1) λa=>jtq a b c d e)) (jcU (vb true)):=hq Tryz.func25
theorem g26:G 26 [a]=jbW 2 a λa=>ji2 (kG a 0) (sv [61]) λa=>jcU a:=gq Tryz.func26
theorem g27:G 27 [a]=jbW 2 a λa=>kF 26 [jfV a] λb=>kbr b (jh5 (kG a 1) λb=>ji2 b (vi 2) λb=>jdW b true λ_=>ji8 b 45 [jfV a] λc=>jhd b c (vb false) λb=>jdW b true λ_=>jgP b (kG a 1) λc=>kGT b (zN 2 c (vi 0)) λc=>kGT b (jch 2 c) λc=>ji8 b 57 [c] λc=>jhd b c (vb false) λb=>jdW b true λ_=>jgP b (kG a 1) λa=>kGT b (zN 2 a (vi 1)) λa=>kGT b (jch 2 a) λa=>ji8 b 57 [a] λa=>jhd b a (vb false) λa=>jcU a) (kF 58 [kG a 0] λb=>jdW b true λ_=>ji8 b 30 [jfV a] λa=>jhd b a (vb false) λa=>jcU a):=gq Tryz.func27
theorem g28:G 28 [a,b]=jbW 2 a λa=>jbW 2 b λb=>kF 19 [jfV a,jfV b] λc=>kbr c (jcU (vi 1)) ((jl5 (kG a 0) (kG a 1) []).bind λc=>kHR 1 c 0 λc=>(jl5 (kG b 0) (kG b 1) c).bind λc=>kHR 1 c 0 λc=>jjd (jdE c) (vi 12) (jcU (vi 0)) ((jpo c).bind λc=>kHR 1 c 0 λc=>(jvA (jdE c) [[vi 1]]).bind λd=>kHR 1 d 0 λd=>kfn true (G 62 [A.agg [A.sl 1 c,A.sl 1 d,vi 1],jfV a,jfV b]) λa=>jcU a)):=gq Tryz.func28
theorem g29:G 29 [a,b,c]=jbW 1 c λc=>jpq a b (vi 0) (kG c 0) []:=gq Tryz.func29
theorem jtY:jpq a b c d p=kLb c d (jry 2 3 d c 1 λe=>(jq1 e p).bind λe=>kHR 1 e 0 λe=>je0 c (vi 1) λc=>jpq a b c d e) (jpr a b (vi 1) (vi 0) d p):=hq Tryz.func29
theorem jrC:jpr a b c d e p=jkO d (jdE p) λf=>jgP f c λg=>kGT f (jgx .lss false g (vi 200)) λg=>kbP f g (vb false) (jkp c b λc=>je0 d (vi 1) λd=>jpr a b c d e p) (jln a b c (vi 0) e p):=hq Tryz.func29
theorem jpC:jln a b c d e p=jg5 d c (jq3 a b c d d (vi 0) e p [] []) (jcU (vb true)):=hq Tryz.func29
theorem jzo:jq3 a b c d e f g p q r=jg5 f (jdE p) (kIx (JN p) f λh=>kRP p h 0 λh=>(jgx .rem false e b).bind λi=>(jvB h i q r).bind λh=>kHR 1 h 0 λ_=>kHR 1 h 1 λ_=>kHR 1 h 2 λi=>kHR 1 h 3 λh=>jrz e b λe=>je0 f (vi 1) λf=>jq3 a b c d e f g p i h) (joh a b c d (vb false) (vi 0) g p q r):=hq Tryz.func29
theorem jtZ:joh a b c d e f g p q r=jh5 g λh=>jkO f h λh=>jgP h e λi=>kGT h (pUn .not i) λi=>kbP h i (vb false) (jry 2 3 g f 1 λe=>kfn true (G 65 [a,b,A.agg [A.sl 1 q,A.sl 1 r],e]) λe=>jsO 3 g f 0 λh=>(jgx .eql true e h).bind λe=>je0 f (vi 1) λf=>joh a b c d e f g p q r) (kbN e (jcU (vb false)) (je0 d (vi 1) λd=>jln a b c d g p)):=hq Tryz.func29
theorem g3:G 3 [a]=kF 4 [a] λb=>kbr b (jcU (vb true)) (kF2 5 [a] λb c=>jbW 2 b λb=>jbW 2 c λc=>(jxT (jfV b) (jfV c)).bind λd=>kHD d 0 λe=>kHR 66 d 1 λd=>brn (zY e) ((G 7 [jfV b,jfV c]).bind λf=>jiU f λf=>jiz f 0 λ_=>jiz f 1 λf=>(jgx .neq true e f).bind λf=>jhY f e λg=>jdW f false λ_=>jjp f 8 [jfV b] λh=>jhY f h λh=>jdW h true λ_=>ji8 h 8 [jfV c] λi=>kGF f (jf3 h i (vb false)) λh=>kGF f (jgx .neq true g h) λg=>kbP f (vb true) g (jcU (vb false)) (jqn a e (vi 1) (kG b 0) (kG b 1) (kG c 0) (kG c 1) d)) none):=gq Tryz.func3
theorem jAp:jqn a b c d e f g p=jkO c (vi 4) λh=>jgP h b λi=>kbP h i (vb false) (brn (ZO d) (brn (ZO e) (brn (ZO f) (brn (ZO g) (kfn true (G 9 [a,c,A.sl 2 [[d,e],[f,g]]]) λh=>kbN h (je0 c (vi 1) λc=>jqn a b c d e f g p) (kfn true (G 9 [a,c,A.sl 2 p]) λh=>kbN h (jcU (vb false)) (je0 c (vi 1) λc=>jqn a b c d e f g p))) none) none) none) none) (kbN b (ji2 (jdE p) (vi 0) λa=>jcU a) (kIN 2 2 e (vi 0) λa=>kIN 2 2 e (vi 1) λb=>kF2 10 [a,b] λa b=>kIN 2 2 e (vi 1) λc=>kIN 2 2 e (vi 0) λd=>kF2 10 [c,d] λc d=>jgP b d λd=>jhd b d (vb false) λb=>jgP b a λa=>kGT b (jgx .eql false a (vi 2)) λa=>jhd b a (vb false) λa=>jgP a c λb=>kGT a (jgx .eql false b (vi 3)) λb=>jhd a b (vb false) λa=>jcU a)):=hq Tryz.func3
theorem g30:G 30 [a]=jbW 2 a λa=>kF 45 [jfV a] λb=>jdW b true λ_=>ji8 b 57 [jfV a] λa=>jhd b a (vb false) λa=>jcU a:=gq Tryz.func30
theorem jop:jlj a b c d=joB a (vi 1) λe=>jdW e false λ_=>jdW e false λf=>brn f ((jpl (vi 3) b c d).bind λb=>kHD b 0 λc=>kHD b 1 λd=>kHD b 2 λf=>kHD b 3 λb=>kbP e (vb true) b (jx8 c d f) (jx9 c d f a)) (kbP e (vb true) (A.val undef) (jx8 b c d) (jx9 b c d a)):=vq Tryz.func31
theorem jBj:jpm a b c p=(jth (jdE p) a b c).bind λa=>kHD a 0 λb=>kHD a 1 λc=>kHD a 2 λd=>kHD a 3 λa=>kIx (JN p) a λa=>kRP p a 0 λa=>some (A.top,[b,c,d,a]):=vq Tryz.func32
theorem g33:G 33 [a,b]=jbW 2 a λa=>jbW 2 b λb=>kF 25 [jfV a,jfV b] λc=>kbr c (jcU (vi 1)) (kF 66 [A.sl 1 [],jfV a] λc=>kF 66 [c,jfV b] λc=>brn (ZO c) (brn (ZO c) (jh5 c λd=>ji2 d (vi 0) λd=>jdW d false λ_=>jhY d c λe=>kGF d (jf1 e) λe=>kGF d (jgx .gtr false e (vi 12)) λe=>kbP d (vb true) e (jcU (vi 0)) (jq4 (vi 0) (kG a 0) (kG a 1) (kG b 0) (kG b 1) c (vi 1) [])) none) none):=gq Tryz.func33
theorem jzp:jq4 a b c d e f g p=kLb a f (brn (jbk ((JN p)+(JN [[vi 1]])) 8) (je0 a (vi 1) λa=>jq4 a b c d e f g (jgD p [[vi 1]])) none) (kfn true (G 67 [A.agg [f,A.sl 1 p,g],A.agg [b,c],A.agg [d,e]]) λa=>jiz a 0 λb=>jiz a 1 λa=>kbN a (jcU (vi 0)) (jcU b)):=hq Tryz.func33
theorem jBk:jth a b c d=joC a (vi 1) (some (A.top,[b,c,d,vi 0])) ((jtj b c d).bind λb=>kHD b 0 λc=>kHD b 1 λd=>kHD b 2 λe=>kHD b 3 λb=>jjd a (vi 200) (jkp b (vi 256) λb=>(jtj c d e).bind λc=>kHD c 0 λd=>kHD c 1 λe=>kHD c 2 λf=>kHD c 3 λc=>je0 b c λb=>jya b a d e f) (jya b a c d e)):=vq Tryz.func34
theorem g35:G 35 [a]=jbW 2 a λa=>kF 30 [jfV a] λb=>jdW b false λ_=>jjp b 26 [jfV a] λc=>jhY b c λc=>jdW c true λ_=>ji8 c 27 [jfV a] λa=>kGF b (jf3 c a (vb false)) λa=>jhd b (vb true) a λa=>jcU a:=gq Tryz.func35
theorem g36:G 36 [a]=jl8 a (vy 65) λb=>jgP b a λa=>kGT b (jgx .leq false a (vy 90)) λa=>jhd b a (vb false) λa=>jcU a:=gq Tryz.func36
theorem jBl:jpn a b=jbW 2 a λa=>brn (ZO (kG a 0)) (brn (ZO (kG a 0)) ((jcZ none true true [sv []] b (kG a 0)).bind λc=>jiz c 0 λd=>jiz c 1 λc=>jdW c true λ_=>jgP c (kG a 1) λe=>kGT c (jf1 e) λe=>kGT c (jgx .eql false e (vi 0)) λe=>kbP c e (vb false) (brn (ZO d) (jh5 (kG a 1) λc=>jlH b (kG a 1) c (vi 0) (sv []) d [] []) none) (jh5 (kG a 1) λc=>jlH b (kG a 1) c (vi 0) (sv []) (kG a 0) [] [])) none) none:=vq Tryz.func37
theorem jqE:jlH a b c d e f p q=jg5 d c (kIN 2 2 b d λg=>jbW 2 g λg=>(jpn (jfV g) a).bind λg=>kHD g 0 λh=>kHR 66 g 1 λg=>brn (zY h) (brn (ZO h) (brn (jiR h) (brn (jbk ((JN q)+(JN [[h,A.sl 2 g]])) 40) (je0 d (vi 1) λd=>jlH a b c d e f p (jgD q [[h,A.sl 2 g]])) none) none) none) none) (brn (ZO f) (some (A.top,[f,A.sl 66 q])) none):=hq Tryz.func37
theorem g38:G 38 [a,b]=jh5 a λc=>jtr b a c (vi 0) []:=gq Tryz.func38
theorem jzq:jtr a b c d p=jg5 d c (kIP 1 b d λe=>kF 69 [d] λf=>je0 a f λf=>(jgB none p e f).bind λe=>je0 d (vi 1) λd=>jtr a b c d e) (jcU (A.mp p)):=hq Tryz.func38
theorem jzf:jmt a b p=brn (ZO a) (brn (ZO b) (jh5 b λc=>ji2 c (vi 0) λc=>jdW c true λ_=>ji8 c 41 [A.agg [a,b]] λd=>kbP c d (vb false) (kfn true (G 70 [A.sl 1 p,a]) λb=>kbN b (e_7 a p) (some (A.top,[A.sl 1 p]))) (jh5 b λa=>jmw b a (vi 0) p)) none) none:=vq Tryz.func39
theorem jt0:jmw a b c p=jyb c b a p:=hq Tryz.func39
theorem jmN:jmx a b c p=jyb c b a p:=hq Tryz.func39
theorem g4:G 4 [a]=jh5 a λa=>jnu a (vi 65536) λa=>jcU a:=gq Tryz.func4
theorem g40:G 40 [a,b]=jbW 2 a λa=>jh5 b λc=>jts b c (vi 0) (kG a 0) (kG a 1) (sv []) []:=gq Tryz.func40
theorem jzr:jts a b c d e f p=jg5 c b (kIP 1 a c λd=>jh5 e λg=>jl9 g (vi 1) λg=>kF 71 [d,vi 0,g] λg=>kbN g (jcU (A.tup [A.agg [sv [],A.sl 2 []],vb false])) (kIN 2 2 e d λd=>jbW 2 d λd=>je0 c (vi 1) λc=>jts a b c (kG d 0) (kG d 1) f p)) (brn (ZO d) (brn (ZO e) (jcU (A.tup [A.agg [d,e],vb true])) none) none):=hq Tryz.func40
theorem g41:G 41 [a]=jbW 2 a λa=>kIS (kG a 0) (vi 0) λa=>kF 36 [a] λa=>jcU a:=gq Tryz.func41
theorem g42:G 42 [a,b]=jbW 2 a λa=>jbW 2 b λb=>brn (ZO (kG a 0)) (brn (ZO (kG a 1)) (brn (ZO (kG b 0)) (brn (ZO (kG b 1)) (brn (ZO (kG a 0)) (brn (ZO (kG a 1)) (brn (ZO (kG b 0)) (brn (ZO (kG b 1)) (jvF [[kG a 0,kG a 1,kG b 0,kG b 1]] [] []) none) none) none) none) none) none) none) none:=gq Tryz.func42
theorem jBK:jvF p q r=jyc p r q:=hq Tryz.func42
theorem jwI:jq5 a b p q r=jjd (nA (nOf b)) (vi 0) (kIx (nOf b) (vi 0) λc=>kRN p ((nOf a)+c) 0 2 λc=>(G 72 [A.agg [A.sl 3 r],c]).bind λc=>jiU c λc=>jiz c 0 λd=>jiz c 1 λc=>jbW 2 d λd=>kIx (nOf b) (vi 0) λe=>kRN p ((nOf a)+e) 2 2 λe=>(G 72 [A.agg [A.sl 3 r],e]).bind λe=>jiU e λe=>jiz e 0 λf=>jiz e 1 λe=>jbW 2 f λf=>kB (nOf b) (jhi p (nOf a)) none λb=>kB 0 b (some (vi 1)) λg=>jnc c λc=>jhY c e λe=>kGF c (pUn .not e) λe=>kbP c (vb true) e (jcU (A.tup [A.agg [A.sl 3 []],vb false])) (kF 19 [jfV d,jfV f] λc=>kbr c (jq5 (nA ((nOf a)+g)) (nA (jh2 b g)) p q r) (kF 41 [jfV d] λc=>jdW c false λ_=>jjp c 41 [jfV f] λe=>kbP c (vb true) e (brn (ZO (kG d 0)) (brn (ZO (kG d 1)) (brn (ZO (kG f 0)) (brn (ZO (kG f 1)) (kF2 73 [A.agg [kG d 0,kG d 1,kG f 0,kG f 1]] λc d=>jbW 1 c λc=>kbN d (jcU (A.tup [A.agg [A.sl 3 []],vb false])) ((G 74 [A.agg [A.sl 3 r],jka c]).bind λc=>jye c a g b p q)) none) none) none) none) (jkA (kG d 0) (kG f 0) λc=>jdW c false λ_=>jhY c (kG d 1) λe=>kGF c (jf1 e) λe=>jdW c false λ_=>jhY c (kG f 1) λh=>kGF c (jf1 h) λh=>kGF c (jgx .neq false e h) λe=>kbP c (vb true) e (jcU (A.tup [A.agg [A.sl 3 []],vb false])) (jh5 (kG d 1) λc=>jtt (nA ((nOf a)+g)) (nA (jh2 b g)) (kG d 1) c (vi 0) (kG f 0) (kG f 1) p q r []))))) (jcU (A.tup [A.agg [A.sl 3 r],vb true])):=hq Tryz.func42
theorem jwJ:jmy a b c p q=jjd (nA (nOf b)) (vi 0) (kIx (nOf b) (vi 0) λd=>kRN p ((nOf a)+d) 0 2 λd=>(G 72 [A.agg [c],d]).bind λd=>jiU d λd=>jiz d 0 λe=>jiz d 1 λd=>jbW 2 e λe=>kIx (nOf b) (vi 0) λf=>kRN p ((nOf a)+f) 2 2 λf=>(G 72 [A.agg [c],f]).bind λf=>jiU f λf=>jiz f 0 λg=>jiz f 1 λf=>jbW 2 g λg=>kB (nOf b) (jhi p (nOf a)) none λb=>kB 0 b (some (vi 1)) λh=>jnc d λd=>jhY d f λf=>kGF d (pUn .not f) λf=>kbP d (vb true) f (jcU (A.tup [A.agg [A.sl 3 []],vb false])) (kF 19 [jfV e,jfV g] λd=>kbr d (jmy (nA ((nOf a)+h)) (nA (jh2 b h)) c p q) (kF 41 [jfV e] λd=>jdW d false λ_=>jjp d 41 [jfV g] λf=>kbP d (vb true) f (brn (ZO (kG e 0)) (brn (ZO (kG e 1)) (brn (ZO (kG g 0)) (brn (ZO (kG g 1)) (kF2 73 [A.agg [kG e 0,kG e 1,kG g 0,kG g 1]] λd e=>jbW 1 d λd=>kbN e (jcU (A.tup [A.agg [A.sl 3 []],vb false])) ((G 74 [A.agg [c],jka d]).bind λc=>jye c a h b p q)) none) none) none) none) (jkA (kG e 0) (kG g 0) λd=>jdW d false λ_=>jhY d (kG e 1) λf=>kGF d (jf1 f) λf=>jdW d false λ_=>jhY d (kG g 1) λi=>kGF d (jf1 i) λi=>kGF d (jgx .neq false f i) λf=>kbP d (vb true) f (jcU (A.tup [A.agg [A.sl 3 []],vb false])) (jh5 (kG e 1) λd=>jtu (nA ((nOf a)+h)) (nA (jh2 b h)) (kG e 1) d (vi 0) c (kG g 0) (kG g 1) p q []))))) (brn (ZO c) (jcU (A.tup [A.agg [c],vb true])) none):=hq Tryz.func42
theorem jBL:jtt a b c d e f g p q r s=jyf e d c g s a b f p q r:=hq Tryz.func42
theorem jBM:jtu a b c d e f g h p q r=jyg e d c h r a b f g p q:=hq Tryz.func42
theorem jzs:jvG a b c d e f g p q r s=jyf e d c g q a b f p r s:=hq Tryz.func42
theorem jwK:joi p q r=jyc p r q:=hq Tryz.func42
theorem jzt:jvH a b c d e f g h p q r=jyg e d c h q a b f g p r:=hq Tryz.func42
theorem jzu:jps a p q=jjd (jdE p) (vi 0) (kIx (JN p) (vi 0) λb=>kRN p b 0 2 λb=>(G 72 [A.agg [a],b]).bind λb=>jiU b λb=>jiz b 0 λc=>jiz b 1 λb=>jbW 2 c λc=>kIx (JN p) (vi 0) λd=>kRN p d 2 2 λd=>(G 72 [A.agg [a],d]).bind λd=>jiU d λd=>jiz d 0 λe=>jiz d 1 λd=>jbW 2 e λe=>kB (jdD p) (jhi p 0) none λf=>kB 0 f (some (vi 1)) λg=>jnc b λb=>jhY b d λd=>kGF b (pUn .not d) λd=>kbP b (vb true) d (jcU (A.tup [A.agg [A.sl 3 []],vb false])) (kF 19 [jfV c,jfV e] λb=>kbr b (jmy (nA (0+g)) (nA (jh2 f g)) a p q) (kF 41 [jfV c] λb=>jdW b false λ_=>jjp b 41 [jfV e] λd=>kbP b (vb true) d (brn (ZO (kG c 0)) (brn (ZO (kG c 1)) (brn (ZO (kG e 0)) (brn (ZO (kG e 1)) (kF2 73 [A.agg [kG c 0,kG c 1,kG e 0,kG e 1]] λb c=>jbW 1 b λb=>kbN c (jcU (A.tup [A.agg [A.sl 3 []],vb false])) ((G 74 [A.agg [a],jka b]).bind λa=>jyd a g f p q)) none) none) none) none) (jkA (kG c 0) (kG e 0) λb=>jdW b false λ_=>jhY b (kG c 1) λd=>kGF b (jf1 d) λd=>jdW b false λ_=>jhY b (kG e 1) λh=>kGF b (jf1 h) λh=>kGF b (jgx .neq false d h) λd=>kbP b (vb true) d (jcU (A.tup [A.agg [A.sl 3 []],vb false])) (jh5 (kG c 1) λb=>jtu (nA (0+g)) (nA (jh2 f g)) (kG c 1) b (vi 0) a (kG e 0) (kG e 1) p q []))))) (brn (ZO a) (jcU (A.tup [A.agg [a],vb true])) none):=hq Tryz.func42
theorem g43:G 43 [a,b]=jbW 1 a λa=>jbW 2 b λb=>jh5 (kG b 1) λc=>jiL c (vi 0) (kF2 75 [jka a,kG b 0] λa c=>jbW 2 a λa=>kbr c (kF 76 [jfV a] λa=>jbW 2 a λa=>jcU (jfV a)) (jyh b)) (jh5 (kG b 1) λc=>kMk 40 c c λc=>brn (ZO (kG b 0)) (brn (ZO (kG b 0)) (jh5 (kG b 1) λd=>jvI (kG b 1) d (vi 0) (kG a 0) (sv []) (kG b 0) (jck c [sv [],A.sl 2 []]) []) none) none):=gq Tryz.func43
theorem jBN:jvI a b c d e f p q=jyi c b a d p e f q:=hq Tryz.func43
theorem jzv:jvJ a b c d e f p q=jyi c b a d q e f p:=hq Tryz.func43
theorem g44:G 44 [a,b,c]=jbW 2 a λa=>jbW 2 c λc=>jh5 b λd=>jiL d (vi 0) ((jtk (kG c 0) (kG c 1)).bind λa=>jyj a) ((jtk (kG a 0) (kG a 1)).bind λd=>kHD d 0 λe=>kHR 2 d 1 λd=>brn (ZO e) (kIP 1 b (vi 0) λf=>kIP 1 b (vi 0) λg=>kIN 2 2 (kG a 1) g λa=>kSl 1 b (some (vi 1)) none λb=>kF 44 [a,b,jfV c] λa=>jyk d f a e) none):=gq Tryz.func44
theorem g45:G 45 [a]=jbW 2 a λa=>kF 77 [jfV a] λb=>joB b (vi 30) λb=>jdW b true λ_=>ji8 b 78 [jfV a] λa=>kGT b (jgx .leq false a (vi 8)) λa=>jhd b a (vb false) λa=>jcU a:=gq Tryz.func45
theorem g46:G 46 [a,b]=jh5 a λc=>jtv a b c (vi 0):=gq Tryz.func46
theorem jzw:jtv a b c d=jg5 d c (kIN 2 2 a d λe=>(DX.run K (MM K) (.callc b [e] false)).bind λe=>kbr e (jcU d) (je0 d (vi 1) λd=>jtv a b c d)) (jcU (vi (- 1))):=hq Tryz.func46
theorem g47:G 47 [a,b,c]=jh5 a λd=>jh5 b λe=>jnd d e (jcU (vb false)) (jh5 a λd=>jtw b c a d (vi 0)):=gq Tryz.func47
theorem jzx:jtw a b c d e=jg5 e d (kIN 2 2 c e λf=>jbW 2 f λf=>kIN 2 2 a e λg=>jbW 2 g λg=>(DX.run K (MM K) (.callc b [jfV f,jfV g] false)).bind λf=>kbN f (jcU (vb false)) (je0 e (vi 1) λe=>jtw a b c d e)) (jcU (vb true)):=hq Tryz.func47
theorem g48:G 48 [a]=jbW 2 a λa=>jiL (kG a 0) (sv [61]) (jh5 (kG a 1) λb=>ji2 b (vi 2) λb=>jdW b true λ_=>ji8 b 79 [jfV a] λc=>jhd b c (vb false) λb=>jdW b true λ_=>jgP b (kG a 1) λc=>kGT b (zN 2 c (vi 0)) λc=>kGT b (jch 2 c) λc=>ji8 b 80 [c] λc=>jhd b c (vb false) λb=>jdW b true λ_=>jgP b (kG a 1) λa=>kGT b (zN 2 a (vi 1)) λa=>kGT b (jch 2 a) λa=>ji8 b 80 [a] λa=>jhd b a (vb false) λa=>jcU a) (kF 81 [kG a 0] λb=>jdW b true λ_=>ji8 b 82 [jfV a] λa=>jhd b a (vb false) λa=>jcU a):=gq Tryz.func48
theorem g49:G 49 [a]=kLS a λb=>kFN 83 [b,vi 1,vi 4] λb=>jhY b a λc=>kGF b (jar c (vi 0)) λc=>kGF b (jgx .lss false c (vy 65)) λc=>jhd b (vb true) c λb=>jhY b a λc=>kGF b (jar c (vi 0)) λc=>kGF b (jgx .gtr false c (vy 90)) λc=>kbP b (vb true) c (jcU (vb false)) (jpt a (vi 1)):=gq Tryz.func49
theorem jzy:jpt a b=kLS a λc=>jg5 b c (kIS a b λc=>kF 84 [c] λc=>kbN c (jcU (vb false)) (je0 b (vi 1) λb=>jpt a b)) (jcU (vb true)):=hq Tryz.func49
theorem g5:G 5 [a]=brn (ZO a) (brn (ZO a) ((jte a (vi 0) (A.val (.int .u64 0))).bind λa=>kHD a 0 λb=>kHD a 1 λc=>kHD a 2 λd=>kHD a 3 λa=>jbW 2 a λa=>(jpl (vi 3) b c d).bind λb=>kHD b 0 λc=>kHD b 1 λd=>kHD b 2 λe=>kHD b 3 λb=>kbr b ((G 13 [jfV a]).bind λb=>jiU b λb=>jyl a b) ((jte c d e).bind λb=>kHD b 0 λ_=>kHD b 1 λ_=>kHD b 2 λ_=>kHD b 3 λb=>jyl a b)) none) none:=gq Tryz.func5
theorem g50:G 50 [a]=jg5 a (vi 0) ((pUn .neg a).bind λa=>kF 50 [a] λa=>je0 (sv [45]) a λa=>jcU a) (jg5 a (vi 10) (je0 a (vi 1) λb=>(ZP (sv [48,49,50,51,52,53,54,55,56,57]) (some a) (some b)).bind λa=>jcU a) (jrz a (vi 10) λb=>kF 50 [b] λb=>(jgx .rem false a (vi 10)).bind λc=>(jgx .rem false a (vi 10)).bind λa=>je0 a (vi 1) λa=>(ZP (sv [48,49,50,51,52,53,54,55,56,57]) (some c) (some a)).bind λa=>je0 b a λa=>jcU a)):=gq Tryz.func50
theorem g51:G 51 [a,b]=jtx a b (vi 0):=gq Tryz.func51
theorem jzz:jtx a b c=kLb c a (kIP 1 a c λd=>jiL d b (jcU (vb true)) (je0 c (vi 1) λc=>jtx a b c)) (jcU (vb false)):=hq Tryz.func51
theorem jBm:jti a=kRs 1 a λa=>brn (jbk (JN a) 8) (some (A.top,[A.sl 1 a])) none:=vq Tryz.func52
theorem g53:G 53 [a,b]=jbW 2 a λa=>jty b (vi 0) (kG a 0) (kG a 1) (sv []) []:=gq Tryz.func53
theorem jzA:jty a b c d e p=kLb b a (kIP 1 a b λc=>jh5 d λf=>jl9 f (vi 1) λf=>kF 83 [c,vi 0,f] λc=>kbN c (jcU (A.tup [A.agg [sv [],A.sl 2 []],vb false])) (kIP 1 a b λc=>kIN 2 2 d c λc=>jbW 2 c λc=>je0 b (vi 1) λb=>jty a b (kG c 0) (kG c 1) e p)) ((G 13 [A.agg [c,d]]).bind λa=>jiU a λa=>jbW 2 a λa=>jcU (A.tup [jfV a,vb true])):=hq Tryz.func53
theorem g54:G 54 [a,b]=jbW 2 a λa=>jbW 2 b λb=>brn (ZO (kG a 0)) (brn (ZO (kG a 1)) (brn (ZO (kG b 0)) (brn (ZO (kG b 1)) (brn (ZO (kG a 0)) (brn (ZO (kG a 1)) (brn (ZO (kG b 0)) (brn (ZO (kG b 1)) (jvK [[kG a 0,kG a 1,kG b 0,kG b 1]] [] [] []) none) none) none) none) none) none) none) none:=gq Tryz.func54
theorem jBO:jvK p q r s=jym p s r q:=hq Tryz.func54
theorem jwL:jq6 a b p q r s=jjd (nA (nOf b)) (vi 0) (kIx (nOf b) (vi 0) λc=>kRN p ((nOf a)+c) 0 2 λc=>(G 85 [A.agg [A.sl 3 s],c]).bind λc=>jiU c λc=>jiz c 0 λd=>jiz c 1 λc=>jbW 2 d λd=>kIx (nOf b) (vi 0) λe=>kRN p ((nOf a)+e) 2 2 λe=>(G 85 [A.agg [A.sl 3 s],e]).bind λe=>jiU e λe=>jiz e 0 λf=>jiz e 1 λe=>jbW 2 f λf=>jnc c λc=>jhY c e λe=>kGF c (pUn .not e) λe=>kbP c (vb true) e (jcU (A.tup [A.agg [A.sl 3 r],vb false])) (kB (nOf b) (jhi p (nOf a)) none λb=>kB 0 b (some (vi 1)) λc=>kF 25 [jfV d,jfV f] λe=>kbr e (kbN (vb true) (jcU (A.tup [A.agg [A.sl 3 r],vb false])) (jq6 (nA ((nOf a)+c)) (nA (jh2 b c)) p q r s)) (kF 49 [kG d 0] λe=>jdW e true λ_=>jgP e (kG f 0) λg=>ji8 e 49 [g] λg=>jhd e g (vb false) λe=>jdW e true λ_=>jgP e (kG d 0) λg=>jdW e true λ_=>jgP e (kG f 0) λh=>kGT e (jgx .lss false g h) λg=>kbP e g (vb false) (jv3 s f d r a c b p q) (kF 49 [kG d 0] λe=>kbr e (jv3 s d f r a c b p q) (kF 49 [kG f 0] λe=>kbr e (jv3 s f d r a c b p q) (jkA (kG d 0) (kG f 0) λe=>jdW e false λ_=>jhY e (kG d 1) λg=>kGF e (jf1 g) λg=>jdW e false λ_=>jhY e (kG f 1) λh=>kGF e (jf1 h) λh=>kGF e (jgx .neq false g h) λg=>kbP e (vb true) g (jcU (A.tup [A.agg [A.sl 3 r],vb false])) (jtz (nA ((nOf a)+c)) (nA (jh2 b c)) (vb true) (vi 0) (kG d 0) (kG d 1) (kG f 0) (kG f 1) p q r s []))))))) (jcU (A.tup [A.agg [A.sl 3 s],vb true])):=hq Tryz.func54
theorem jwM:jmz a b c p q r=jjd (nA (nOf b)) (vi 0) (kIx (nOf b) (vi 0) λd=>kRN p ((nOf a)+d) 0 2 λd=>(G 85 [A.agg [c],d]).bind λd=>jiU d λd=>jiz d 0 λe=>jiz d 1 λd=>jbW 2 e λe=>kIx (nOf b) (vi 0) λf=>kRN p ((nOf a)+f) 2 2 λf=>(G 85 [A.agg [c],f]).bind λf=>jiU f λf=>jiz f 0 λg=>jiz f 1 λf=>jbW 2 g λg=>jnc d λd=>jhY d f λf=>kGF d (pUn .not f) λf=>kbP d (vb true) f (jcU (A.tup [A.agg [A.sl 3 r],vb false])) (kB (nOf b) (jhi p (nOf a)) none λb=>kB 0 b (some (vi 1)) λd=>kF 25 [jfV e,jfV g] λf=>kbr f (kbN (vb true) (jcU (A.tup [A.agg [A.sl 3 r],vb false])) (jmz (nA ((nOf a)+d)) (nA (jh2 b d)) c p q r)) (kF 49 [kG e 0] λf=>jdW f true λ_=>jgP f (kG g 0) λh=>ji8 f 49 [h] λh=>jhd f h (vb false) λf=>jdW f true λ_=>jgP f (kG e 0) λh=>jdW f true λ_=>jgP f (kG g 0) λi=>kGT f (jgx .lss false h i) λh=>kbP f h (vb false) (jv4 c g e r a d b p q) (kF 49 [kG e 0] λf=>kbr f (jv4 c e g r a d b p q) (kF 49 [kG g 0] λf=>kbr f (jv4 c g e r a d b p q) (jkA (kG e 0) (kG g 0) λf=>jdW f false λ_=>jhY f (kG e 1) λh=>kGF f (jf1 h) λh=>jdW f false λ_=>jhY f (kG g 1) λi=>kGF f (jf1 i) λi=>kGF f (jgx .neq false h i) λh=>kbP f (vb true) h (jcU (A.tup [A.agg [A.sl 3 r],vb false])) (jtA (nA ((nOf a)+d)) (nA (jh2 b d)) (vb true) (vi 0) c (kG e 0) (kG e 1) (kG g 0) (kG g 1) p q r []))))))) (brn (ZO c) (jcU (A.tup [A.agg [c],vb true])) none):=hq Tryz.func54
theorem jBP:jtz a b c d e f g h p q r s t=jyp d f h t a b c e g p q r s:=hq Tryz.func54
theorem jBQ:jtA a b c d e f g h i p q r s=jyq d g i s a b c e f h p q r:=hq Tryz.func54
theorem jzB:jvL a b c d e f g h p q r s t=jyp d f h q a b c e g p r s t:=hq Tryz.func54
theorem jwN:joj p q r s=jym p s r q:=hq Tryz.func54
theorem jzC:jvM a b c d e f g h i p q r s=jyq d g i q a b c e f h p r s:=hq Tryz.func54
theorem jzD:jpu a p q r=jjd (jdE p) (vi 0) (kIx (JN p) (vi 0) λb=>kRN p b 0 2 λb=>(G 85 [A.agg [a],b]).bind λb=>jiU b λb=>jiz b 0 λc=>jiz b 1 λb=>jbW 2 c λc=>kIx (JN p) (vi 0) λd=>kRN p d 2 2 λd=>(G 85 [A.agg [a],d]).bind λd=>jiU d λd=>jiz d 0 λe=>jiz d 1 λd=>jbW 2 e λe=>jnc b λb=>jhY b d λd=>kGF b (pUn .not d) λd=>kbP b (vb true) d (jcU (A.tup [A.agg [A.sl 3 r],vb false])) (kB (jdD p) (jhi p 0) none λb=>kB 0 b (some (vi 1)) λd=>kF 25 [jfV c,jfV e] λf=>kbr f (kbN (vb true) (jcU (A.tup [A.agg [A.sl 3 r],vb false])) (jmz (nA (0+d)) (nA (jh2 b d)) a p q r)) (kF 49 [kG c 0] λf=>jdW f true λ_=>jgP f (kG e 0) λg=>ji8 f 49 [g] λg=>jhd f g (vb false) λf=>jdW f true λ_=>jgP f (kG c 0) λg=>jdW f true λ_=>jgP f (kG e 0) λh=>kGT f (jgx .lss false g h) λg=>kbP f g (vb false) (jv5 a e c r d b p q) (kF 49 [kG c 0] λf=>kbr f (jv5 a c e r d b p q) (kF 49 [kG e 0] λf=>kbr f (jv5 a e c r d b p q) (jkA (kG c 0) (kG e 0) λf=>jdW f false λ_=>jhY f (kG c 1) λg=>kGF f (jf1 g) λg=>jdW f false λ_=>jhY f (kG e 1) λh=>kGF f (jf1 h) λh=>kGF f (jgx .neq false g h) λg=>kbP f (vb true) g (jcU (A.tup [A.agg [A.sl 3 r],vb false])) (jtA (nA (0+d)) (nA (jh2 b d)) (vb true) (vi 0) a (kG c 0) (kG c 1) (kG e 0) (kG e 1) p q r []))))))) (brn (ZO a) (jcU (A.tup [A.agg [a],vb true])) none):=hq Tryz.func54
theorem g55:G 55 [a,b]=jbW 1 a λa=>jbW 2 b λb=>kF 49 [kG b 0] λc=>kbr c (kF 87 [jka a,kG b 0] λc=>jqw c (vi 0) (jry 2 3 (kG a 0) c 1 λa=>(G 13 [a]).bind λa=>jiU a λa=>jbW 2 a λa=>jcU (jfV a)) (jyh b)) (brn (ZO (kG b 0)) (brn (ZO (kG b 0)) (jtB (vi 0) (kG a 0) (kG b 0) (kG b 1) (sv []) (kG b 0) [] []) none) none):=gq Tryz.func55
theorem jzE:jtB a b c d e f p q=kLb a d (kIN 2 2 d a λg=>(G 55 [A.agg [b],g]).bind λg=>jiU g λg=>jbW 2 g λg=>brn (jbk ((JN q)+(JN [[kG g 0,kG g 1]])) 40) (je0 a (vi 1) λa=>jtB a b c d e f p (jgD q [[kG g 0,kG g 1]])) none) (brn (ZO f) (jcU (A.agg [f,A.sl 2 q])) none):=hq Tryz.func55
theorem g56:G 56 [a,b,c]=jbW 2 a λa=>jbW 2 c λc=>jh5 b λd=>jiL d (vi 0) ((jtf (kG c 0) (kG c 1)).bind λa=>jyj a) ((jtf (kG a 0) (kG a 1)).bind λd=>kHD d 0 λe=>kHR 2 d 1 λd=>brn (ZO e) (kIP 1 b (vi 0) λf=>kIP 1 b (vi 0) λg=>kIN 2 2 (kG a 1) g λa=>kSl 1 b (some (vi 1)) none λb=>kF 56 [a,b,jfV c] λa=>jyk d f a e) none):=gq Tryz.func56
theorem g57:G 57 [a]=jbW 2 a λa=>kF 88 [kG a 0] λb=>kbr b (jh5 (kG a 1) λa=>ji2 a (vi 0) λa=>jcU a) (kF 58 [kG a 0] λb=>jdW b true λ_=>jgP b (kG a 1) λc=>kGT b (jf1 c) λc=>kGT b (jgx .leq false c (vi 4)) λc=>jhd b c (vb false) λb=>jdW b true λ_=>jgP b (kG a 1) λa=>ji8 b 17 [a,A.fn 89 []] λa=>kGT b (pUn .not a) λa=>jhd b a (vb false) λa=>jcU a):=gq Tryz.func57
theorem g58:G 58 [a]=kLS a λb=>jq7 a b (vi 0):=gq Tryz.func58
theorem jt1:jq7 a b c=jg5 c b (ji2 c (vi 0) λd=>jgP d a λe=>jgP d c λf=>kGT d (jar e f) λe=>ji8 d 90 [e] λe=>kGT d (pUn .not e) λe=>jhd d e (vb false) λd=>jhY d a λe=>jhY d c λf=>kGF d (jar e f) λe=>jjp d 90 [e] λe=>kGF d (pUn .not e) λe=>jhY d e λe=>jgP e a λf=>jgP e c λg=>kGT e (jar f g) λf=>ji8 e 91 [f] λf=>kGT e (pUn .not f) λf=>kGF d (jf3 e f (vb false)) λe=>jhY d e λe=>jgP e a λf=>jgP e c λg=>kGT e (jar f g) λf=>kGT e (jgx .neq false f (vy 95)) λf=>kGF d (jf3 e f (vb false)) λe=>kbP d (vb true) e (jcU (vb false)) (je0 c (vi 1) λc=>jq7 a b c)) (kLS a λb=>kF 71 [b,vi 1,vi 6] λb=>ji8 b 92 [] λc=>jgP b a λa=>ji8 b 70 [c,a] λa=>kGT b (pUn .not a) λa=>jhd b a (vb false) λa=>jcU a):=hq Tryz.func58
theorem jBn:jl5 a b p=brn (ZO a) (brn (ZO b) (kF 58 [a] λc=>jdW c true λ_=>jdW c true λ_=>jgP c a λd=>kGT c ((G 70 [A.sl 1 p,d]).bind (fin true)) λd=>kGT c (pUn .not d) λd=>kbP c d (vb false) (brn (ZO a) (brn (jbk ((JN p)+(JN [[a]])) 16) (jh5 b λc=>jnT b c (vi 0) (jgD p [[a]])) none) none) (jh5 b λa=>jqo b a (vi 0) p)) none) none:=vq Tryz.func59
theorem jt2:jnT a b c p=jyr c b a p:=hq Tryz.func59
theorem jyI:jqo a b c p=jyr c b a p:=hq Tryz.func59
theorem jBo:jvA a p=jg5 a (vi 0) none ((jeA .u64 (jdE p)).bind λb=>(jeA .u64 a).bind λa=>kF2 95 [b,a] λa b=>jnu a (A.val (.int .u64 0)) λa=>jhY a b λc=>kGF a (jgx .gtr false c (A.val (.int .u64 9223372036854775807))) λc=>kbP a (vb true) c none ((jeA .i64 b).bind λa=>kMk 8 a a λa=>jnU (jh6 p (jdD (jck a [vi 0]))) (qK (jck a [vi 0]) 0 (jhj p (jdD (jck a [vi 0])))) p)):=vq Tryz.func61
theorem jn1:jnU a p q=jg5 a (jdE p) (kB (jdD p) (jhi p 0) none λb=>kB 0 b (some a) λc=>kB (jdD p) (jhi p 0) (some a) λd=>je0 a (jh6 (jh7 p 0 (jh2 d 0)) (jh2 b c)) λa=>jnU a (qK p (0+c) (jhj (jh7 p 0 (jh2 d 0)) (jh2 b c))) q) (some (A.top,[A.sl 1 p])):=hq Tryz.func61
theorem g62:G 62 [a,b,c]=jbW 3 a λa=>jbW 2 b λb=>jbW 2 c λc=>kF 19 [jfV b,jfV c] λd=>kfn true (G 96 [d,A.fn 97 [A.elt [kG a 0,kG a 1,kG a 2] 0,A.elt [kG b 0,kG b 1] 0,A.elt [kG c 0,kG c 1] 0],A.fn 99 [A.elt [kG a 0,kG a 1,kG a 2] 0,A.elt [kG c 0,kG c 1] 0,A.elt [kG b 0,kG b 1] 0]]) λa=>jcU a:=gq Tryz.func62
theorem jBp:jq1 a p=jbW 2 a λa=>jh5 (kG a 1) λb=>ji2 b (vi 0) λb=>jdW b true λ_=>jgP b (kG a 0) λc=>kGT b (jf2 c) λc=>kGT b (jgx .gtr false c (vi 0)) λc=>jhd b c (vb false) λb=>jdW b true λ_=>jgP b (kG a 0) λc=>kGT b (jar c (vi 0)) λc=>kGT b (jgx .geq false c (vy 65)) λc=>jhd b c (vb false) λb=>jdW b true λ_=>jgP b (kG a 0) λc=>kGT b (jar c (vi 0)) λc=>kGT b (jgx .leq false c (vy 90)) λc=>kbP b c (vb false) (jlI (vi 0) (kG a 0) (kG a 1) p) (jnV (vi 0) (kG a 0) (kG a 1) p):=vq Tryz.func63
theorem jt3:jlI a b c p=jg5 a (jdE p) (kIx (JN p) a λd=>kRP p d 0 λd=>jiL d b (some (A.top,[A.sl 1 p])) (je0 a (vi 1) λa=>jlI a b c p)) (e_7 b p):=hq Tryz.func63
theorem jyJ:jnV a b c p=jys a c p b:=hq Tryz.func63
theorem jqG:jnW a b c p=jys a c p b:=hq Tryz.func63
theorem jBq:jvB a b p q=brn (jbk (JN p) 16) (brn (ZO a) (brn (jbk ((JN p)+(JN [[a]])) 16) (brn (jbk (JN q) 8) (brn (ZO b) (brn (jbk ((JN q)+(JN [[b]])) 8) (some (A.top,[A.sl 1 p,A.sl 1 q,A.sl 1 (jgD p [[a]]),A.sl 1 (jgD q [[b]])])) none) none) none) none) none) none:=vq Tryz.func64
theorem g65:G 65 [a,b,c,d]=jbW 2 c λc=>jbW 2 d λd=>jl6 a b (vi 0) (kG c 0) (kG c 1) (kG d 0) (kG d 1) []:=gq Tryz.func65
theorem jrE:jl6 a b c d e f g p=kLb c g (kIN 2 2 g c λh=>kF 100 [a,b,A.agg [d,e],h] λh=>brn (ZO h) (brn (jbk ((JN p)+(JN [[h]])) 8) (je0 c (vi 1) λc=>jl6 a b c d e f g (jgD p [[h]])) none) none) (ji2 f (sv [61]) λb=>jdW b true λ_=>jgP b (jdE p) λc=>kGT b (jgx .eql false c (vi 2)) λc=>kbP b c (vb false) (kIx (JN p) (vi 0) λa=>kRP p a 0 λa=>kIx (JN p) (vi 1) λb=>kRP p b 0 λb=>ji2 a b λa=>jcU a) (je0 (sv [126]) f λb=>kfn true (G 101 [a,b,A.sl 1 p]) λa=>(jgx .rem false a (vi 2)).bind λa=>ji2 a (vi 1) λa=>jcU a)):=hq Tryz.func65
theorem g66:G 66 [a,b]=jbW 2 b λb=>kF 49 [kG b 0] λc=>kbN c (kF 102 [a,kG b 0] λa=>jq8 a (vi 0) (kG b 0) (kG b 1)) (jq8 a (vi 0) (kG b 0) (kG b 1)):=gq Tryz.func66
theorem jzF:jq8 a b c d=kLb b d (kIN 2 2 d b λe=>kF 66 [a,e] λa=>je0 b (vi 1) λb=>jq8 a b c d) (jcU a):=hq Tryz.func66
theorem g67:G 67 [a,b,c]=jbW 3 a λa=>jbW 2 b λb=>jbW 2 c λc=>kFN 103 [jl1 a] λd=>jdW d false λ_=>jdW d false λ_=>jjp d 104 [jl1 a,jfV b] λe=>kGF d (pUn .not e) λe=>jhd d (vb true) e λd=>jdW d false λ_=>jdW d false λ_=>jjp d 104 [jl1 a,jfV c] λe=>kGF d (pUn .not e) λe=>kbP d (vb true) e (jcU (A.tup [vi 0,vb false])) (kF 25 [jfV b,jfV c] λd=>kF 106 [jl1 a,jfV b,jfV c] λe=>kF 106 [jl1 a,jfV c,jfV b] λa=>kF 105 [d,e,a] λa=>jcU (A.tup [a,vb true])):=gq Tryz.func67
theorem jBr:jtj a b c=kLb b a (kIP 1 a b λd=>(jeA .i64 d).bind λd=>je0 b (vi 1) λb=>brn (ZO b) (jkp c (A.val (.int .u64 6364136223846793005)) λc=>(jeA .u64 d).bind λe=>je0 c e λc=>je0 c (A.val (.int .u64 892892)) λc=>brn (ZO c) (jh5 a λe=>joC b e (some (A.top,[a,b,c,d])) (jyt c a b)) none) none) (je0 b (vi 1) λb=>brn (ZO b) (jkp c (A.val (.int .u64 6364136223846793005)) λc=>(jeA .u64 (vi 0)).bind λd=>je0 c d λc=>je0 c (A.val (.int .u64 892892)) λc=>brn (ZO c) (jh5 a λd=>joC b d (some (A.top,[a,b,c,vi 0])) (jyt c a b)) none) none):=vq Tryz.func68
theorem jAa:jxT a b=jbW 2 a λa=>jbW 2 b λb=>kFN 8 [jfV a] λc=>jdW c false λ_=>jjp c 8 [jfV b] λd=>kGF c (pUn .not d) λd=>kbP c (vb true) d (some (A.top,[vb false,A.sl 66 []])) (kF2 14 [jfV a,sv [65]] λa _=>jbW 2 a λa=>kF2 14 [jfV b,sv [66]] λb _=>jbW 2 b λb=>kIN 2 2 (kG b 1) (vi 0) λc=>kF 15 [c] λc=>jh5 c λd=>jm3 c d (vi 0) (kG a 0) (kG a 1) (kG b 0) (kG b 1) []):=vq Tryz.func6
theorem jwO:jm3 a b c d e f g p=jg5 c b (kIP 1 a c λh=>(jqZ (A.agg [d,e]) (A.agg [f,g]) h).bind λh=>kHD h 0 λi=>kHD h 1 λj=>kHR 66 h 2 λh=>brn (zY i) (brn (zY j) (brn (ZO i) (jdW j true λ_=>jdW j true λ_=>kGT j ((G 17 [A.sl 2 p,A.fn 18 [A.elt [i,A.sl 2 h] 0]]).bind (fin true)) λk=>kGT j (pUn .not k) λk=>kbP j k (vb false) (brn (ZO i) (brn (jiR i) (brn (jbk ((JN p)+(JN [[i,A.sl 2 h]])) 40) (je0 c (vi 1) λc=>jm3 a b c d e f g (jgD p [[i,A.sl 2 h]])) none) none) none) (je0 c (vi 1) λc=>jm3 a b c d e f g p)) none) none) none) (some (A.top,[vb true,A.sl 66 p])):=hq Tryz.func6
theorem g7:G 7 [a,b]=jbW 2 a λa=>jbW 2 b λb=>kFN 20 [jfV a] λc=>jdW c false λ_=>jjp c 20 [jfV b] λd=>kGF c (pUn .not d) λd=>kbP c (vb true) d (jcU (A.tup [A.sl 2 [],vb false])) ((jtg (kG a 0) (kG a 1) []).bind λc=>kHR 1 c 0 λc=>(G 21 [jfV a,A.sl 1 c,sv [65]]).bind λa=>jiU a λa=>(jtg (kG b 0) (kG b 1) []).bind λc=>kHR 1 c 0 λc=>(G 21 [jfV b,A.sl 1 c,sv [66]]).bind λb=>jiU b λb=>jbW 2 a λa=>jbW 2 b λb=>kIN 2 2 (kG b 1) (vi 0) λc=>(G 23 [c,A.sl 1 []]).bind λc=>jiU c λc=>jz2 c (vi 0) (kG a 0) (kG a 1) (kG b 0) (kG b 1) []):=gq Tryz.func7
theorem jDg:jz2 a b c d e f p=jyu b a c d e f p:=hq Tryz.func7
theorem jyK:jvN a b c d e f g h i j p=jkO d (jdE p) λk=>jgP k c λl=>kbP k l (vb false) (kIx (JN p) d λc=>kRN p c 0 2 λc=>kFN 25 [c,A.agg [i,j]] λc=>je0 d (vi 1) λd=>jvN a b c d e f g h i j p) (kbr c (brn (ZO i) (brn (ZO j) (brn (jbk ((JN p)+(JN [[i,j]])) 40) (je0 b (vi 1) λb=>jra a b e f g h (jgD p [[i,j]])) none) none) none) (je0 b (vi 1) λb=>jra a b e f g h p)):=hq Tryz.func7
theorem jAq:jra a b c d e f p=jyu b a c d e f p:=hq Tryz.func7
theorem g70:G 70 [a,b]=kF 108 [a,b] λa=>jl8 a (vi 0) λa=>jcU a:=gq Tryz.func70
theorem g71:G 71 [a,b,c]=jyv a b c:=gq Tryz.func71
theorem g72:G 72 [a,b]=jbW 1 a λa=>jbW 2 b λb=>kF 43 [jka a,jfV b] λa=>jbW 2 a λa=>kF 45 [jfV a] λb=>jyw b a:=gq Tryz.func72
theorem g73:G 73 [a]=jbW 4 a λa=>brn (ZO (kG a 0)) (brn (ZO (kG a 1)) (brn (ZO (kG a 2)) (brn (ZO (kG a 3)) (kFN 41 [jfV a] λb=>jdW b false λ_=>jjp b 41 [A.agg [kG a 2,kG a 3]] λc=>jhY b c λc=>jdW c true λ_=>jgP c (kG a 2) λd=>jdW c true λ_=>jgP c (kG a 0) λe=>kGT c (jgx .gtr false d e) λd=>kGF b (jf3 c d (vb false)) λc=>kbP b (vb true) c (brn (ZO (kG a 2)) (brn (ZO (kG a 3)) (brn (ZO (kG a 0)) (brn (ZO (kG a 1)) (brn (ZO (kG a 2)) (brn (ZO (kG a 0)) (brn (ZO (kG a 1)) (brn (ZO (kG a 2)) (brn (ZO (kG a 0)) (brn (ZO (kG a 1)) (kFN 109 [kG a 2,jfV a] λb=>jdW b true λ_=>kGT b ((G 110 [A.agg [A.sl 3 [[kG a 2,kG a 0,kG a 1]]]]).bind (fin true)) λc=>jhd b c (vb false) λb=>jcU (A.tup [A.agg [A.sl 3 [[kG a 2,kG a 0,kG a 1]]],b])) none) none) none) none) none) none) none) none) none) none) (brn (ZO (kG a 0)) (brn (ZO (kG a 2)) (brn (ZO (kG a 3)) (brn (ZO (kG a 0)) (brn (ZO (kG a 2)) (brn (ZO (kG a 3)) (kFN 109 [kG a 0,A.agg [kG a 2,kG a 3]] λb=>jdW b true λ_=>kGT b ((G 110 [A.agg [A.sl 3 [[kG a 0,kG a 2,kG a 3]]]]).bind (fin true)) λc=>jhd b c (vb false) λb=>jcU (A.tup [A.agg [A.sl 3 [[kG a 0,kG a 2,kG a 3]]],b])) none) none) none) none) none) none)) none) none) none) none:=gq Tryz.func73
theorem g74:G 74 [a,b]=jbW 1 a λa=>jbW 1 b λb=>jh5 (kG a 0) λc=>jq9 (kG a 0) c (vi 0) (kG a 0) (kG b 0) [] []:=gq Tryz.func74
theorem jzG:jq9 a b c d e p q=jg5 c b (kIN 3 3 a c λf=>jbW 3 f λf=>kF 43 [A.agg [e],A.agg [kG f 1,kG f 2]] λg=>jbW 2 g λg=>jnd (kG g 0) (kG f 0) (brn (ZO (kG f 0)) (brn (ZO (kG g 0)) (brn (ZO (kG g 1)) (brn (ZO (kG f 0)) (brn (ZO (kG g 0)) (brn (ZO (kG g 1)) (brn (jbk ((JN q)+(JN [[kG f 0,kG g 0,kG g 1]])) 56) (je0 c (vi 1) λc=>jq9 a b c d e p (jgD q [[kG f 0,kG g 0,kG g 1]])) none) none) none) none) none) none) none) (je0 c (vi 1) λc=>jq9 a b c d e p q)) (jh5 e λa=>jpv e a (vi 0) d p q):=hq Tryz.func74
theorem jzH:jpv a b c d p q=jg5 c b (kIN 3 3 a c λe=>jbW 3 e λe=>kF2 75 [A.agg [d],kG e 0] λf g=>jbW 2 f λ_=>kbN g (kF 76 [A.agg [kG e 1,kG e 2]] λf=>(K3 (kD (K.at 74) 110) [sv [],sv [],A.sl 2 []] [(0,kG e 0),(1,f)]).bind λe=>jbW 3 e λe=>brn (jbk ((JN q)+(JN [[kG e 0,kG e 1,kG e 2]])) 56) (je0 c (vi 1) λc=>jpv a b c d p (jgD q [[kG e 0,kG e 1,kG e 2]])) none) (je0 c (vi 1) λc=>jpv a b c d p q)) ((jsA q).bind λa=>kHR 3 a 0 λa=>kfn true (G 110 [A.agg [A.sl 3 a]]) λb=>kbN b (jcU (A.tup [A.agg [A.sl 3 []],vb false])) (jcU (A.tup [A.agg [A.sl 3 a],vb true]))):=hq Tryz.func74
theorem g75:G 75 [a,b]=jbW 1 a λa=>kF2 114 [kG a 0,b,A.fn 115 []] λb c=>kbN c (jcU (A.tup [A.agg [sv [],A.sl 2 []],vb false])) (jry 2 3 (kG a 0) b 1 λa=>jbW 2 a λa=>jcU (A.tup [jfV a,vb true])):=gq Tryz.func75
theorem g76:G 76 [a]=jbW 2 a λa=>(jp3 (kG a 1)).bind λb=>kHR 2 b 0 λb=>brn (ZO (kG a 0)) (brn (ZO (kG a 0)) (jcU (A.agg [kG a 0,A.sl 2 b])) none) none:=gq Tryz.func76
theorem jBs:jtk a b=brn (ZO a) (brn (ZO b) ((jp3 b).bind λb=>kHR 2 b 0 λb=>brn (ZO a) (brn (ZO a) (some (A.top,[a,A.sl 2 b])) none) none) none) none:=vq Tryz.func76
theorem g77:G 77 [a]=jbW 2 a λa=>jh5 (kG a 1) λb=>jtC (vi 1) (kG a 1) b (vi 0):=gq Tryz.func77
theorem jwP:jtC a b c d=jg5 d c (kIN 2 2 b d λe=>jbW 2 e λe=>jjd a (vi 30) (jcU a) (kF 77 [jfV e] λe=>je0 a e λa=>je0 d (vi 1) λd=>jtC a b c d)) (jcU a):=hq Tryz.func77
theorem g78:G 78 [a]=jbW 2 a λa=>jh5 (kG a 1) λb=>jtD (vi 0) (kG a 1) b (vi 0):=gq Tryz.func78
theorem jzI:jtD a b c d=jg5 d c (kIN 2 2 b d λe=>jbW 2 e λe=>kF 78 [jfV e] λe=>(jgz a e).bind λa=>je0 d (vi 1) λd=>jtD a b c d) (je0 a (vi 1) λa=>jcU a):=hq Tryz.func78
theorem g79:G 79 [a]=jbW 2 a λa=>kF 117 [jfV a,vi 30] λb=>joB b (vi 30) λb=>jdW b true λ_=>ji8 b 118 [jfV a] λa=>kGT b (jgx .leq false a (vi 8)) λa=>jhd b a (vb false) λa=>jcU a:=gq Tryz.func79
theorem g8:G 8 [a]=jbW 2 a λa=>kF 26 [jfV a] λb=>jdW b true λ_=>ji8 b 27 [jfV a] λc=>jhd b c (vb false) λb=>jdW b true λ_=>jgP b (kG a 1) λc=>kGT b (zN 2 c (vi 0)) λc=>kGT b (jch 2 c) λc=>jdW b true λ_=>jgP b (kG a 1) λa=>kGT b (zN 2 a (vi 1)) λa=>kGT b (jch 2 a) λa=>ji8 b 28 [c,a] λa=>kGT b (jgx .eql false a (vi 2)) λa=>jhd b a (vb false) λa=>jcU a:=gq Tryz.func8
theorem g80:G 80 [a]=jbW 2 a λa=>kF 49 [kG a 0] λb=>kbr b (jh5 (kG a 1) λa=>ji2 a (vi 0) λa=>jcU a) (kFN 81 [kG a 0] λb=>jdW b false λ_=>jhY b (kG a 1) λc=>kGF b (jf1 c) λc=>kGF b (jgx .gtr false c (vi 4)) λc=>kbP b (vb true) c (jcU (vb false)) (jtE (vi 0) (kG a 0) (kG a 1))):=gq Tryz.func80
theorem jzJ:jtE a b c=kLb a c (kIN 2 2 c a λd=>kF 80 [d] λd=>kbN d (jcU (vb false)) (je0 a (vi 1) λa=>jtE a b c)) (jcU (vb true)):=hq Tryz.func80
theorem g81:G 81 [a]=kLS a λb=>kFN 83 [b,vi 1,vi 6] λb=>jhY b a λc=>kGF b (jar c (vi 0)) λc=>kGF b (jgx .lss false c (vy 97)) λc=>jhd b (vb true) c λb=>jhY b a λc=>kGF b (jar c (vi 0)) λc=>kGF b (jgx .gtr false c (vy 122)) λc=>kbP b (vb true) c (jcU (vb false)) (ji2 a (sv [116,114,117,101]) λb=>kbr b (kbr b (jcU (vb false)) (jkL a (vi 1))) (ji2 a (sv [102,97,108,115,101]) λb=>kbr b (kbr b (jcU (vb false)) (jkL a (vi 1))) (ji2 a (sv [116,114,117,116,104]) λb=>kbr b (kbr b (jcU (vb false)) (jkL a (vi 1))) (ji2 a (sv [98,111,116,104]) λb=>kbr b (kbr b (jcU (vb false)) (jkL a (vi 1))) (ji2 a (sv [101,105,116,104,101,114]) λb=>kbr b (kbr b (jcU (vb false)) (jkL a (vi 1))) (ji2 a (sv [105,102]) λb=>kbr b (kbr b (jcU (vb false)) (jkL a (vi 1))) (ji2 a (sv [97,108,108]) λb=>kbr b (kbr b (jcU (vb false)) (jkL a (vi 1))) (jiL a (sv [115,111,109,101]) (jcU (vb false)) (jkL a (vi 1)))))))))):=gq Tryz.func81
theorem jzK:jkL a b=kLS a λc=>jg5 b c (kIS a b λc=>kFN 84 [c] λc=>jgP c a λd=>jgP c b λe=>kGT c (jar d e) λd=>kGT c (jgx .neq false d (vy 95)) λd=>kbP c d (vb false) (jcU (vb false)) (je0 b (vi 1) λb=>jkL a b)) (jcU (vb true)):=hq Tryz.func81
theorem g82:G 82 [a]=jbW 2 a λa=>kF 79 [jfV a] λb=>jdW b true λ_=>ji8 b 80 [jfV a] λa=>jhd b a (vb false) λa=>jcU a:=gq Tryz.func82
theorem g83:G 83 [a,b,c]=jyv a b c:=gq Tryz.func83
theorem g84:G 84 [a]=jl8 a (vy 97) λb=>jgP b a λc=>kGT b (jgx .leq false c (vy 122)) λc=>jhd b c (vb false) λb=>jhY b a λc=>kGF b (jgx .geq false c (vy 48)) λc=>jhY b c λc=>jgP c a λa=>kGT c (jgx .leq false a (vy 57)) λa=>kGF b (jf3 c a (vb false)) λa=>jhd b (vb true) a λa=>jcU a:=gq Tryz.func84
theorem g85:G 85 [a,b]=jbW 1 a λa=>jbW 2 b λb=>kFN 119 [jka a] λc=>jdW c false λ_=>jjp c 120 [jfV b] λd=>kGF c (pUn .not d) λd=>kbP c (vb true) d (jcU (A.tup [A.agg [sv [],A.sl 2 []],vb false])) ((G 55 [jka a,jfV b]).bind λa=>jiU a λa=>jbW 2 a λa=>kF 120 [jfV a] λb=>jyw b a):=gq Tryz.func85
theorem g86:G 86 [a,b,c]=jbW 1 a λa=>jbW 2 c λc=>kF 121 [jfV c] λd=>kF 51 [d,b] λd=>kbr d (brn (ZO (kG a 0)) (jcU (A.tup [jka a,vb false])) none) ((jsB b (kG c 0) (kG c 1) []).bind λb=>kHR 3 b 0 λb=>(G 122 [jka a,A.agg [A.sl 3 b]]).bind λa=>jiU a λa=>jiz a 0 λb=>jiz a 1 λa=>jbW 1 b λb=>jcU (A.tup [jka b,a])):=gq Tryz.func86
theorem g87:G 87 [a,b]=jbW 1 a λa=>jrb b (vi 0) (kG a 0):=gq Tryz.func87
theorem jzL:jrb a b c=kLb b c (jsO 3 c b 0 λd=>jiL d a (jcU b) (je0 b (vi 1) λb=>jrb a b c)) (jcU (vi (- 1))):=hq Tryz.func87
theorem g88:G 88 [a]=kLS a λb=>jrc a b (vi 0):=gq Tryz.func88
theorem jt4:jrc a b c=jg5 c b (ji2 c (vi 0) λd=>jgP d a λe=>jgP d c λf=>kGT d (jar e f) λe=>ji8 d 36 [e] λe=>kGT d (pUn .not e) λe=>jhd d e (vb false) λd=>jhY d c λe=>kGF d (jgx .gtr false e (vi 0)) λe=>jhY d e λe=>jgP e a λf=>jgP e c λg=>kGT e (jar f g) λf=>ji8 e 90 [f] λf=>kGT e (pUn .not f) λf=>kGF d (jf3 e f (vb false)) λe=>jhY d e λe=>jgP e a λf=>jgP e c λg=>kGT e (jar f g) λf=>ji8 e 91 [f] λf=>kGT e (pUn .not f) λf=>kGF d (jf3 e f (vb false)) λe=>kbP d (vb true) e (jcU (vb false)) (je0 c (vi 1) λc=>jrc a b c)) (kLS a λa=>kF 71 [a,vi 1,vi 4] λa=>jcU a):=hq Tryz.func88
theorem g89:G 89 [a]=jbW 2 a λa=>kFN 57 [jfV a] λa=>jcU a:=gq Tryz.func89
theorem g9:G 9 [a,b,c]=jvO a b c (vi 0):=gq Tryz.func9
theorem jyL:jvO a b c d=kLb d c (kIN 2 2 c d λe=>(K3 (kD (K.at 9) 57) [vb false,sv [],A.sl 2 []] [(0,vb true),(1,e)]).bind λe=>jbW 3 e λe=>kfn true (G 29 [a,b,A.agg [A.sl 3 [[kG e 0,kG e 1,kG e 2]]]]) λe=>kbN e (jcU (vb false)) (je0 d (vi 1) λd=>jvO a b c d)) (jcU (vb true)):=hq Tryz.func9
theorem g90:G 90 [a]=jl8 a (vy 97) λb=>jgP b a λa=>kGT b (jgx .leq false a (vy 122)) λa=>jhd b a (vb false) λa=>jcU a:=gq Tryz.func90
theorem g91:G 91 [a]=jl8 a (vy 48) λb=>jgP b a λa=>kGT b (jgx .leq false a (vy 57)) λa=>jhd b a (vb false) λa=>jcU a:=gq Tryz.func91
theorem g92:G 92 []=jcU (A.sl 1 [[sv [116,114,117,101]],[sv [102,97,108,115,101]],[sv [116,114,117,116,104]],[sv [98,111,116,104]],[sv [101,105,116,104,101,114]],[sv [105,102]],[sv [97,108,108]],[sv [115,111,109,101]]]):=gq Tryz.func92
theorem g95:G 95 [a,b]=kbr (vb false) ((jeA .u32 a).bind λa=>(jeA .u32 b).bind λb=>kF2 135 [a,b] λa b=>(jeA .u64 a).bind λa=>(jeA .u64 b).bind λb=>jcU (A.tup [a,b])) (kF2 136 [a,b] λa b=>jcU (A.tup [a,b])):=gq Tryz.func95
theorem g96:G 96 [a,b,c]=kbr a (jcU (vi 1)) ((DX.run K (MM K) (.callc b [] false)).bind λa=>kbr a (jcU (vi 2)) ((DX.run K (MM K) (.callc c [] false)).bind λa=>kbr a (jcU (vi 3)) (jcU (vi 0)))):=gq Tryz.func96
theorem g97:G 97 [a,b,c]=kLN 3 a λa=>kLN 2 b λb=>kLN 2 c λc=>kF 98 [a,b,c] λa=>jcU a:=gq Tryz.func97
theorem g98:G 98 [a,b,c]=jbW 3 a λa=>jbW 2 b λb=>jbW 2 c λc=>kF 137 [jfV c] λd=>jh5 d λe=>jrd d e (vi 0) (kG a 0) (kG a 1) (kG a 2) (kG b 0) (kG b 1) (kG c 0) (kG c 1):=gq Tryz.func98
theorem jwQ:jrd a b c d e f g h i j=jg5 c b (kIP 1 a c λk=>kF 138 [A.agg [g,h],k] λl=>kF 138 [A.agg [i,j],k] λk=>jg5 l k (jcU (vb false)) (je0 c (vi 1) λc=>jrd a b c d e f g h i j)) (kF 139 [A.agg [d,e,f],A.agg [g,h]] λa=>kF 139 [A.agg [d,e,f],A.agg [i,j]] λb=>jkA a b λc=>jdW c false λ_=>jjp c 41 [A.agg [g,h]] λk=>jhd c (vb true) k λc=>jdW c false λ_=>jjp c 41 [A.agg [i,j]] λk=>kbP c (vb true) k (jnu a b λa=>jcU a) (kF 140 [A.agg [d,e,f],A.agg [i,j],A.agg [g,h]] λa=>kbr a (jcU (vb true)) (kF 141 [A.agg [g,h],A.agg [i,j]] λa=>jiz a 0 λb=>jiz a 1 λc=>jiz a 2 λa=>jbW 2 b λb=>jbW 2 c λc=>jdW a true λ_=>jdW a true λ_=>jdW a true λ_=>ji8 a 98 [A.agg [d,e,f],jfV b,jfV c] λb=>jhd a b (vb false) λa=>jcU a))):=hq Tryz.func98
theorem g99:G 99 [a,b,c]=kLN 3 a λa=>kLN 2 b λb=>kLN 2 c λc=>kF 98 [a,b,c] λa=>jcU a:=gq Tryz.func99
end
end
end Go.Proofs.YthapkjbfjniaiaaGreatDoor
