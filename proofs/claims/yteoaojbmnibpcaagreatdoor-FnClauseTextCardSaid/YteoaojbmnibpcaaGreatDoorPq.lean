/- Pq -/
import Derived.Test.YteoaojbmnibpcaaGreatDoorKt
import Derived.KernelRfl
set_option linter.unusedVariables false
namespace Go.Proofs.YteoaojbmnibpcaaGreatDoor
open Go Go.RowKit Go.Proofs.YteoaojbmnibpcaaGreatDoor.Abs
set_option linter.unusedSimpArgs false
set_option linter.unusedVariables false
noncomputable section
def vT:V:=V.top
def vD(a:A):V:=V.d a
def vP(i:Nat):V:=V.ptr i 0
def vR(i:Nat):V:=V.row i
def tp(n:Nat):Xj:=List.replicate n vT
def pth:Nat->Nat->Xf
 |0,_=>[]
 |k+1,n=>if Nat.ble n 1 then[]else pth k (n/10)++[n%10]
def hs(sh:Option Xf)(f p:Nat)(l:Xj)(n:Nat)(ob:List Abs.Obj):Xe:=MM K (.head f (pth 60 p) (l++tp n) ob sh)
def hd(f p:Nat)(l:Xj)(n:Nat)(ob:List Abs.Obj):Xe:=hs none f p l n ob
theorem gq{f:FuncId}{fn:Func}{l:Xd}{r:Xe}(h3:Tryz.prog.funcs[f]? = some fn)(h2:K.pureF f=true:=by exact rfl)(h4:fn.body.isSome=true:=by exact rfl)(h5:Nat.ble l.length fn.ntmps=true:=by exact rfl)(h1:K.ext f=none:=by exact rfl)(e:evC K (MM K) f (codeOf fn) [] (Kt fn l) (qz K f fn)=r:=by kernel_rfl):G f l=r:=(juv h2 h3 h4 h5 h1).trans e
theorem vq{f:FuncId}{fn:Func}{l:Xj}{ob:List Abs.Obj}{r:Xe}(h3:Tryz.prog.funcs[f]? = some fn)(h1:K.extv f=none:=by exact rfl)(h4:fn.body.isSome=true:=by exact rfl)(h5:Nat.ble l.length fn.ntmps=true:=by exact rfl)(e:evC K (MM K) f (codeOf fn) [] (Yv fn l ob) (qz K f fn)=r:=by kernel_rfl):MM K (.callv f l ob)=r:=(juA h1 h3 h4 h5).trans e
theorem hq{f:FuncId}{fn:Func}{p:Xf}{l:Xj}{ob:List Abs.Obj}{sh:Option Xf}{r:Xe}(h3:Tryz.prog.funcs[f]? = some fn)(h4:fn.body.isSome=true:=by exact rfl)(e:evAt K (MM K) f (codeOf fn) p [] (St.of fn.ntmps l ob sh) (qz K f fn)=r:=by kernel_rfl):MM K (.head f p l ob sh)=r:=(jux h3 h4).trans e
section
variable{B:Type}
def jm(n:Nat)(a:A)(k0:Xd->Option B):Option B:=(jcr n a).bind k0
def kE(t x y:A)(k0:A->Option B):Option B:=(zO t x y).bind k0
def jw(t:A)(w:Bool)(k0:Bool->Option B):Option B:=(qu t w).bind k0
def zL(l:A)(k0:A->Option B):Option B:=(K8 l).bind k0
def jV(t x:A)(k0:A->Option B):Option B:=(pG t true (some x)).bind k0
def kK(t x:A)(k0:A->Option B):Option B:=(pG t false (some x)).bind k0
def ze(t:A)(x:Xl)(k0:A->Option B):Option B:=(pG t true x).bind k0
def yh(t:A)(x:Xl)(k0:A->Option B):Option B:=(pG t false x).bind k0
def yo(t:A)(n:Nat)(l:Xd)(k0:A->Option B):Option B:=(pG t true ((G n l).bind (fin false))).bind k0
def jaQ(t:A)(n:Nat)(l:Xd)(k0:A->Option B):Option B:=(pG t false ((G n l).bind (fin false))).bind k0
def kF(n:Nat)(l:Xd)(k0:A->Option B):Option B:=((G n l).bind (fin false)).bind k0
def jmU(o:Out)(k0:A->Option B):Option B:=(fin false o).bind k0
def kfn(b:Bool)(x:Xe)(k0:A->Option B):Option B:=(x.bind (fin b)).bind k0
def jb3(x:A)(k0:A->Option B):Option B:=(Yp .not x).bind k0
def jq(o:Out)(i:Nat)(k0:A->Option B):Option B:=(hD o i).bind k0
def kHR(k:Nat)(o:Out)(i:Nat)(k0:Xc->Option B):Option B:=(hR k o i).bind k0
def kIx(n:Nat)(i:A)(k0:Nat->Option B):Option B:=(pIx n i).bind k0
def kB(d t:Nat)(x:Xl)(k0:Nat->Option B):Option B:=(pB d t x).bind k0
def kRN(l:Xc)(i j n:Nat)(k0:A->Option B):Option B:=(qt l i j n).bind k0
def kRG(l:Xc)(i:Nat)(k0:Xd->Option B):Option B:=(QX l i).bind k0
def kIS(a i:A)(k0:A->Option B):Option B:=(jT a i).bind k0
def kRP(l:Xc)(i j:Nat)(k0:A->Option B):Option B:=(jat l i j).bind k0
def kLS(a:A)(k0:A->Option B):Option B:=(KD a).bind k0
def jy(x y:A)(k0:A->Option B):Option B:=(jx .add false x y).bind k0
def z8(x y:A)(k0:A->Option B):Option B:=(jx .eql false x y).bind k0
def ZZ(x y:A)(k0:A->Option B):Option B:=(jx .geq false x y).bind k0
def jjX(x y:A)(k0:A->Option B):Option B:=(jx .gtr false x y).bind k0
def jdJ(x y:A)(k0:A->Option B):Option B:=(jx .leq false x y).bind k0
def jam(x y:A)(k0:A->Option B):Option B:=(jx .lss false x y).bind k0
def jgH(x y:A)(k0:A->Option B):Option B:=(jx .mul false x y).bind k0
def jb4(x y:A)(k0:A->Option B):Option B:=(jx .neq false x y).bind k0
def jmS(x y:A)(k0:A->Option B):Option B:=(jx .quo false x y).bind k0
def jmT(x y:A)(k0:A->Option B):Option B:=(jx .shr false x y).bind k0
def Y5(x y:A)(k0:A->Option B):Option B:=(jx .sub false x y).bind k0
def Jr(t:A)(X Y:Option B):Option B:=(zz t).bind λu=>brn u X Y
def Kh(c x y:A)(X Y:Option B):Option B:=(zO c x y).bind λt=>(zz t).bind λu=>brn u X Y
def kbN(x:A)(X Y:Option B):Option B:=(Yp .not x).bind λt=>(zz t).bind λu=>brn u X Y
def kLb(i l:A)(X Y:Option B):Option B:=(K8 l).bind λn=>(jx .lss false i n).bind λt=>(zz t).bind λu=>brn u X Y
def kF2(n:Nat)(l:Xd)(k:A->A->Option B):Option B:=((G n l).bind (fin false)).bind λt=>(jdo t 0).bind λa=>(jdo t 1).bind λb=>k a b
def kFN(n:Nat)(l:Xd)(k:A->Option B):Option B:=((G n l).bind (fin false)).bind λt=>(Yp .not t).bind k
def Y4(n m:Nat)(x i:A)(k:A->Option B):Option B:=(js m x i).bind λt=>(kR n t).bind k
def kIP(m:Nat)(x i:A)(k:A->Option B):Option B:=(js m x i).bind λt=>(Km t).bind k
def jrH(n m:Nat)(x i:A)(o:Nat)(k:A->Option B):Option B:=(js m x i).bind λt=>(jaT t o).bind λt=>(kR n t).bind k
def jpe(m:Nat)(x i:A)(o:Nat)(k:A->Option B):Option B:=(js m x i).bind λt=>(jaT t o).bind λt=>(Km t).bind k
def kJ(x y:A)(X Y:Option B):Option B:=(jx .lss false x y).bind λt=>(zz t).bind λu=>brn u X Y
def QP(x y:A)(X Y:Option B):Option B:=(jx .leq false x y).bind λt=>(zz t).bind λu=>brn u X Y
def zE(x y:A)(X Y:Option B):Option B:=(jx .gtr false x y).bind λt=>(zz t).bind λu=>brn u X Y
def jfa(x y:A)(X Y:Option B):Option B:=(jx .geq false x y).bind λt=>(zz t).bind λu=>brn u X Y
def jW(x y:A)(X Y:Option B):Option B:=(jx .eql false x y).bind λt=>(zz t).bind λu=>brn u X Y
def Jz(x y:A)(X Y:Option B):Option B:=(jx .neq false x y).bind λt=>(zz t).bind λu=>brn u X Y
def jo(x:A):Xe:=some (x,[])
def jaR(t:Xd):A:=A.agg [jb t 0]
def yk(t:Xd):A:=A.agg [jb t 0,jb t 1]
def jgI(t:Xd):A:=A.agg [jb t 0,jb t 1,jb t 2]
end
section
variable(a b c d e f g h i j k l m n o aa ab ac ad ae af ag ah ai aj ak al am:A)(p q r s t u v w x y z:Xc)
def jjn:=hd 10 111010 [vT,vT,vP 0,vP 1,vT,vD a] 43 [.box [vD b],.box [vD c]]
def jeF:=hd 100 111010 [vT,vP 0,vP 1,vP 2,vD a] 22 [.box [vD b,vD c],.box [vD d,vR 3],.box [vD e,vR 4],.row 2 p,.row 2 q]
def J3:=MM K (.callv 101 [vP 0,vD a] [.box [vD b,vD c,vD d]])
def jhW:=MM K (.callv 114 [vP 0] [.box [vD a,vD b,vD c]])
def jhX:=MM K (.callv 115 [vP 0,vD a] [.box [vD b,vD c,vD d]])
def JG:=hs (some [2]) 115 11100 [vT,vD a,vT,vT,vP 0,vP 1] 12 [.box [vD b,vR 3],.box [vD c,vR 4],.box [vD d,vD e,vD f],.row 2 p,.row 2 q]
def jeC:=MM K (.callv 116 [vP 0] [.box [vD a,vD b,vD c]])
def KJ:=hs (some [0]) 116 111010 [vP 0,vT,vP 1,vP 2,vD a] 49 [.box [vD b,vD c,vD d],.box [vD e,vR 3],.box [vD f,vR 4],.row 2 p,.row 2 q]
def YC:=hs (some [0]) 116 11101001001010 [vP 0,vT,vP 1,vP 2,vD a,vP 3,vD b] 47 [.box [vD c,vD d,vD e],.box [vD f,vR 4],.box [vD g,vR 5],.box [vD h,vR 6],.row 2 p,.row 2 q,.row 2 r]
def zS:=MM K (.callv 117 [vP 0,vD a] [.box [vD b,vD c,vD d]])
def jbl:=hd 120 11010 ([vD a]++tp 4++[vD b,vD c]) 41 []
def jeG:=hd 124 11010 ([vD a,vD b,vD c]++tp 8++[vD d,vD e,vD f]) 25 []
def jeD:=MM K (.callv 131 [vP 0,vD a] [.box [vD b,vD c,vD d]])
def jeE:=MM K (.callv 132 [vP 0] [.box [vD a,vD b,vD c]])
def KL:=hs (some [0]) 132 11100 [vP 0,vT,vT,vD a] 94 [.box [vD b,vD c,vD d]]
def jbi:=MM K (.callv 133 [vP 0,vD a] [.box [vD b,vD c,vD d]])
def jeH:=hd 134 111010 [vT,vD a,vP 0,vT,vT,vD b,vD c] 24 [.box [vD d,vD e]]
def jeI:=hd 135 111010 [vT,vP 0,vT,vD a,vD b] 17 [.box [vD c,vD d]]
def QA:=hd 136 111010 [vD a,vT,vT,vD b] 25 []
def QB:=hd 139 11100 [vD a,vD b,vT,vT,vP 0,vT,vD c] 79 [.box [vD d,vR 1],.row 2 p]
def jeJ:=hd 139 11111110 [vD a,vT,vT,vT,vP 0,vT,vD b,vP 1] 78 [.box [vD c,vR 2],.box [vD d,vR 3],.row 2 p,.row 2 q]
def jeK:=hd 149 111010 [vT,vT,vT,vD a,vT,vT,vT,vD b,vD c,vD d] 12 []
def jeL:=hd 150 111010 [vT,vT,vT,vD a,vT,vT,vT,vD b,vD c,vD d] 10 []
def jbm:=hd 151 11010 ([vD a]++tp 4++[vD b,vD c]) 33 []
def jeM:=hd 175 11010 ([vD a,vD b]++tp 5++[vD c,vD d]) 10 []
def jjg:=MM K (.callv 18 [vP 0] [.box [vD a,vD b,vD c]])
def Zo:=hs (some [0]) 18 1110101111101010 [vP 0,vT,vP 1,vT,vT,vR 2,vD a] 79 [.box [vD b,vD c,vD d],.box [vR 3],.row 3 p,.row 3 q]
def jjo:=hd 19 11010 ([vT,vP 0]++tp 4++[vD a,vD b,vD c]) 27 [.box [vD d]]
def jjp:=hd 20 1111010 ([vT,vT,vT,vR 0]++tp 8++[vD a,vD b,vD c]) 11 [.row 1 p]
def jjq:=hd 23 111010 [vT,vP 0,vT,vD a] 38 [.box [vD b]]
def jjr:=hd 24 111010 [vT,vT,vP 0,vP 1,vT,vD a] 33 [.box [vD b,vD c],.box [vD d,vD e]]
def jbn:=hd 25 111010 [vT,vP 0,vT,vD a,vD b] 22 [.box [vD c]]
def jjh:=MM K (.callv 26 [vP 0] [.box [vD a,vD b,vD c]])
def yz:=MM K (.callv 27 [vP 0,vD a] [.box [vD b,vD c,vD d]])
def jl3:=MM K (.callv 28 [vP 0,vD a,vD b] [.box [vD c,vD d,vD e]])
def yV:=MM K (.callv 29 [vP 0,vR 1] [.box [vD a,vD b,vD c],.row 1 p])
def jdr:=hd 30 111100 [vD a,vT,vP 0,vT,vP 1] 50 [.box [vR 2],.box [vR 3],.row 3 p,.row 3 q]
def jjs:=hd 36 11010 ([vD a,vD b]++tp 5++[vD c,vD d]) 10 []
def jji:=MM K (.callv 46 [vP 0] [.box [vD a,vD b,vD c]])
def jl4:=MM K (.callv 53 [vP 0] [.box [vD a,vD b,vD c]])
def jjj:=MM K (.callv 54 [vP 0] [.box [vD a,vD b,vD c]])
def jl5:=MM K (.callv 58 [vR 0] [.row 3 p])
def Zp:=hs (some [0]) 58 111010 [vR 0,vT,vP 1,vR 2,vD a] 69 [.row 3 p,.box [vR 3],.row 3 q,.row 3 r]
def jaZ:=hs (some [0]) 58 1110100100100 [vR 0,vT,vP 1,vR 2,vD a,vD b] 68 [.row 3 p,.box [vR 3],.row 3 q,.row 3 r]
def jjk:=MM K (.callv 59 [vP 0,vD a] [.box [vD b,vD c,vD d]])
def Zq:=hs (some [0]) 59 111010 ([vP 0]++tp 4++[vR 1,vD a]) 40 [.box [vD b,vD c,vD d],.row 3 p]
def jjl:=MM K (.callv 60 [vP 0] [.box [vD a,vD b,vD c]])
def jjt:=hd 61 11010 [vD a,vD b,vT,vT,vT,vD c] 19 []
def jjm:=MM K (.callv 75 [vP 0] [.box [vD a,vD b,vD c]])
def jl6:=MM K (.callv 76 [vP 0] [.box [vD a,vD b,vD c]])
def ZT:=MM K (.callv 77 [vP 0] [.box [vD a,vD b,vD c]])
def jfY:=hd 79 111010 [vT,vT,vT,vD a,vT,vT,vD b,vD c,vD d] 9 []
def jor:=hd 8 1111010 ([vT,vT,vP 0,vT,vP 1]++tp 9++[vD a,vD b,vD c]) 23 [.box [vR 2],.box [vR 3],.row 3 p,.row 3 q]
def jju:=hd 83 11111010 ([vT,vP 0,vT,vR 1]++tp 24++[vD a,vD b,vD c]) 16 [.box [vD d,vD e],.row 1 p]
def qo:=MM K (.callv 91 [vP 0,vD a] [.box [vD b,vD c,vD d]])
def jl7:=MM K (.callv 92 [vP 0] [.box [vD a,vD b,vD c]])
def Yz:=MM K (.callv 93 [vP 0] [.box [vD a,vD b,vD c]])
def jeN:=hs (some [0]) 93 111010100 [vP 0,vT,vP 1,vP 2] 24 [.box [vD a,vD b,vD c],.box [vD d,vR 4],.box [vD e,vR 3],.row 2 p,.row 2 q]
def YD:=hs (some [0]) 93 111010100 [vP 0,vT,vP 1,vP 2] 24 [.box [vD a,vD b,vD c],.box [vD d,vR 3],.box [vD e,vR 4],.row 2 p,.row 2 q]
def jjv:=hd 95 1111010 [vT,vP 0,vT,vD a] 31 [.box [vD b,vD c]]
def JH:=hd 96 1111010 [vD a,vT,vT,vD b] 41 []
def jfZ:=hd 98 1111010 [vT,vT,vP 0,vP 1,vT,vT,vT,vD a] 67 [.box [vD b,vD c],.box [vD d,vD e]]
def jds:=hd 99 1111010 [vT,vP 0,vT,vD a,vD b] 45 [.box [vD c,vD d]]
def e_1(a:Xd):Xe:=brn (jO (jb a 0)) (brn (jO (jb a 1)) (jo (A.tup [yk a,vb true])) none) none
def e_0(a:A)(b:A)(c:Xd):Xe:=yh a (Yp .not b) λb=>Kh a (vb true) b (jo (A.tup [A.agg [sv [],A.sl 2 []],vb false])) (e_1 c)
def e_2(a:A)(b:A)(c:A):Xe:=(ZT a b c).bind λa=>jq a 0 λb=>jq a 1 λc=>jq a 2 λd=>jq a 3 λe=>kHR 2 a 4 λa=>(ZT b c d).bind λb=>jq b 0 λc=>jq b 1 λd=>jq b 2 λf=>jq b 3 λg=>kHR 2 b 4 λb=>brn (jO e) (brn (jO g) (some (A.top,[c,d,f,sv [61],A.sl 2 [[e,A.sl 2 a],[g,A.sl 2 b]]])) none) none
def e_4(a:A)(b:A)(c:A):Xe:=(zS (vi 2) a b c).bind λa=>jq a 0 λb=>jq a 1 λc=>jq a 2 λd=>jq a 3 λe=>kHR 2 a 4 λa=>(zS (vi 2) b c d).bind λb=>jq b 0 λc=>jq b 1 λd=>jq b 2 λf=>jq b 3 λg=>kHR 2 b 4 λb=>brn (jO e) (brn (jO g) (some (A.top,[c,d,f,sv [113],A.sl 2 [[e,A.sl 2 a],[g,A.sl 2 b]]])) none) none
def e_5(a:A)(b:A)(c:A):Xe:=(zS (vi 2) a b c).bind λa=>jq a 0 λb=>jq a 1 λc=>jq a 2 λd=>jq a 3 λe=>kHR 2 a 4 λa=>brn (jO e) (some (A.top,[b,c,d,sv [112],A.sl 2 [[e,A.sl 2 a]]])) none
def e_3(a:A)(b:A)(c:A)(d:A):Xe:=jW a (vi 2) (some (A.top,[b,c,d,sv [114],A.sl 2 []])) (z8 a (vi 3) λe=>Jr e (Jr e (e_4 b c d) (e_5 b c d)) (jW a (vi 4) (e_4 b c d) (e_5 b c d)))
def e_6(a:A)(b:A)(c:A)(d:A)(p:Xc):Xe:=brn (jO a) (some (A.top,[b,c,d,a,A.sl 2 p])) none
def e_7(a:A)(b:A)(c:A)(d:A)(p:Xc):Xe:=brn (jO a) (some (A.top,[b,c,d,A.agg [a,A.sl 2 p]])) none
def e_8(a:A)(b:A)(c:A):Xe:=(yV a b c [[sv [88]],[sv [89]],[sv [90]],[sv [97]],[sv [98]],[sv [88]],[sv [97]]]).bind λa=>jq a 0 λb=>jq a 1 λc=>jq a 2 λd=>jq a 3 λa=>brn (jO a) (brn (jO a) (some (A.top,[b,c,d,a,A.sl 2 []])) none) none
def e_9(a:A)(b:A)(c:A)(d:A):Xe:=(J3 (vi 2) a b c).bind λa=>jq a 0 λb=>jq a 1 λc=>jq a 2 λe=>jq a 3 λa=>Jr a (Y5 d (vi 1) λa=>(zS a b c e).bind λa=>jq a 0 λb=>jq a 1 λc=>jq a 2 λd=>jq a 3 λe=>kHR 2 a 4 λa=>brn (jO e) (some (A.top,[b,c,d,sv [102],A.sl 2 [[e,A.sl 2 a]]])) none) (Y5 d (vi 1) λa=>(zS a b c e).bind λa=>jq a 0 λb=>jq a 1 λc=>jq a 2 λe=>jq a 3 λf=>kHR 2 a 4 λa=>Y5 d (vi 1) λd=>(zS d b c e).bind λb=>jq b 0 λc=>jq b 1 λd=>jq b 2 λe=>jq b 3 λg=>kHR 2 b 4 λb=>brn (jO f) (brn (jO g) (some (A.top,[c,d,e,sv [103],A.sl 2 [[f,A.sl 2 a],[g,A.sl 2 b]]])) none) none)
def joO(a:A)(b:A)(c:A)(d:A):Xe:=Jr a (Jr b (jo (vi 0)) (jo (vi (- 1)))) (Jr b (jo (vi 1)) (kJ c d (jo (vi (- 1))) (zE c d (jo (vi 1)) (jo (vi 0)))))
def joP(a:A)(p:Xc)(b:A)(c:A)(d:A):Xe:=jm 3 a λa=>brn (ky ((jD p)+(jD [[jb a 0,jb a 1,jb a 2]])) 48) (some (A.top,[b,c,d,A.agg [A.sl 3 (zk p [[jb a 0,jb a 1,jb a 2]])]])) none
def joQ(a:A)(b:A)(c:A)(d:A)(e:A):Xe:=(jx .rem false a b).bind λa=>some (A.top,[c,d,e,a])
def joR(a:A)(b:A)(c:A)(d:A)(e:A)(f:A):Xe:=(jU a (some b) none).bind λa=>jy c a λa=>some (A.top,[d,e,f,a])
def joS(a:A)(b:A)(c:A)(d:A)(e:A)(f:A):Xe:=jy a (vi 1) λa=>joR b a c d e f
def joW(a:A)(b:A)(c:A)(d:A)(p:Xc)(q:Xc)(r:Xc)(e:A):Xe:=yo a 56 [b,c] λb=>ze a (jx .eql false b (vi 0)) λb=>Kh a b (vb false) (jy d (vi 1) λa=>Zp a p q r) (kIx (jD p) d λa=>kRP p a 0 λa=>kIx (jD p) d λb=>kRN p b 1 2 λb=>(G 100 [b]).bind λb=>jmU b λb=>(yc (kL (K.at 58) 55) [vb false,sv [],A.sl 2 []] [(0,a),(1,b)]).bind λa=>jm 3 a λa=>kB (Qg q) (jfA q 0) (some e) λb=>brn (ky (jD (jdp q 0 (Yk b 0))) 48) (brn (jO (jb a 0)) (brn (jO (jb a 1)) (brn (jO (jb a 2)) (brn (ky ((jD (jdp q 0 (Yk b 0)))+(jD [[jb a 0,jb a 1,jb a 2]])) 48) (kB (Qg q) (jfA q 0) none λc=>kB 0 c (some e) λe=>brn (ky ((jD (zk (jdp q 0 (Yk b 0)) [[jb a 0,jb a 1,jb a 2]]))+(jD (jdp q (0+e) (Yk c e)))) 48) (jy d (vi 1) λd=>Zp d p (zk (zk (jdp q 0 (Yk b 0)) [[jb a 0,jb a 1,jb a 2]]) (jdp q (0+e) (Yk c e))) r) none) none) none) none) none) none)
def joV(a:A)(b:A)(p:Xc)(c:A)(q:Xc)(r:Xc)(d:A):Xe:=jw a true λ_=>jV a b λe=>jw a true λf=>brn f (kIx (jD p) e λe=>ze a (qt p e 0 3) λe=>joW a c e b p q r d) (ze a (kR 3 (A.val undef)) λe=>joW a c e b p q r d)
def joU(a:A)(b:A)(c:A)(d:A)(e:A)(p:Xc)(q:Xc)(r:Xc):Xe:=yo a 56 [b,c] λb=>ze a (jx .lss false b (vi 0)) λb=>Kh a b (vb false) (jy d (vi 1) λa=>jaZ e a p q r) (jam d (JX q) λa=>jw a true λ_=>jV a d λb=>jw a true λc=>brn c (kIx (jD q) b λb=>ze a (qt q b 0 3) λb=>joV a e p b q r d) (ze a (kR 3 (A.val undef)) λb=>joV a e p b q r d))
def joT(a:A)(b:A)(p:Xc)(c:A)(d:A)(q:Xc)(r:Xc):Xe:=jw a true λ_=>jV a b λe=>jw a true λf=>brn f (kIx (jD p) e λe=>ze a (qt p e 0 3) λe=>joU a c e d b p q r) (ze a (kR 3 (A.val undef)) λe=>joU a c e d b p q r)
def joX(p:Xc)(a:A)(b:A)(c:A):Xe:=(yz (JX p) a b c).bind λa=>jq a 0 λb=>jq a 1 λc=>jq a 2 λd=>jq a 3 λa=>kIx (jD p) a λa=>kRN p a 0 3 λa=>jm 3 a λa=>jb3 (jb a 0) λe=>(G 100 [A.agg [jb a 1,jb a 2]]).bind λa=>jmU a λa=>(yc (kL (K.at 59) 55) [vb false,sv [],A.sl 2 []] [(0,e),(1,a)]).bind λa=>jm 3 a λa=>brn (ky ((jD p)+(jD [[jb a 0,jb a 1,jb a 2]])) 48) (some (A.top,[b,c,d,A.sl 3 (zk p [[jb a 0,jb a 1,jb a 2]])])) none
def joY(a:A)(b:A)(c:A):Xe:=jmT a (A.val (.int .u64 40)) λd=>(jx .and false d (A.val (.int .u64 255))).bind λd=>(Qe .i64 d).bind λd=>some (A.top,[b,c,a,d])
def joZ(a:Xd):Xe:=brn (jO (jb a 0)) (brn (jO (jb a 1)) (brn (jO (jb a 0)) (brn (jO (jb a 1)) (jo (A.tup [A.agg [vb false,jb a 0,jb a 1],vb true])) none) none) none) none
def jo0(a:A)(b:A)(c:A):Xe:=ZZ a b λb=>jV b a λa=>jV b c λc=>ze b (jx .leq false a c) λa=>kE b a (vb false) λa=>jo a
def jo1(a:A)(b:A)(c:A)(p:Xc)(d:A)(e:A)(q:Xc):Xe:=(qo (sv [44]) a b c).bind λa=>jq a 0 λb=>jq a 1 λc=>jq a 2 λf=>jq a 3 λa=>Jr a ((Yz b c f).bind λa=>jq a 0 λb=>jq a 1 λc=>jq a 2 λf=>jq a 3 λa=>jm 2 a λa=>brn (ky ((jD p)+(jD [[jb a 0,jb a 1]])) 40) (YD b c f d e q (zk p [[jb a 0,jb a 1]])) none) ((jbi (sv [41]) b c f).bind λa=>jq a 0 λb=>jq a 1 λc=>jq a 2 λa=>e_7 e b c a p)
def jo2(a:A)(b:A)(c:A)(d:A):Xe:=Y4 2 2 a b λe=>kF 99 [e] λe=>jy c e λc=>jy b (vi 1) λb=>jds c b d a
theorem cev:type_of% (And.intro @jm.eq_1 (And.intro @kE.eq_1 (And.intro @jw.eq_1 (And.intro @zL.eq_1 (And.intro @jV.eq_1 (And.intro @kK.eq_1 (And.intro @ze.eq_1 (And.intro @yh.eq_1 (And.intro @yo.eq_1 (And.intro @jaQ.eq_1 (And.intro @kF.eq_1 (And.intro @jmU.eq_1 (And.intro @kfn.eq_1 (And.intro @jb3.eq_1 (And.intro @jq.eq_1 (And.intro @kHR.eq_1 (And.intro @kIx.eq_1 (And.intro @kB.eq_1 (And.intro @kRN.eq_1 (And.intro @kRG.eq_1 (And.intro @kIS.eq_1 (And.intro @kRP.eq_1 (And.intro @kLS.eq_1 (And.intro @jy.eq_1 (And.intro @z8.eq_1 (And.intro @ZZ.eq_1 (And.intro @jjX.eq_1 (And.intro @jdJ.eq_1 (And.intro @jam.eq_1 (And.intro @jgH.eq_1 (And.intro @jb4.eq_1 (And.intro @jmS.eq_1 (And.intro @jmT.eq_1 (And.intro @Y5.eq_1 (And.intro @Jr.eq_1 (And.intro @Kh.eq_1 (And.intro @kbN.eq_1 (And.intro @kLb.eq_1 (And.intro @kF2.eq_1 (And.intro @kFN.eq_1 (And.intro @Y4.eq_1 (And.intro @kIP.eq_1 (And.intro @jrH.eq_1 (And.intro @jpe.eq_1 (And.intro @kJ.eq_1 (And.intro @QP.eq_1 (And.intro @zE.eq_1 (And.intro @jfa.eq_1 (And.intro @jW.eq_1 (And.intro @Jz.eq_1 (And.intro @jo.eq_1 (And.intro @jaR.eq_1 (And.intro @yk.eq_1 (And.intro @jgI.eq_1 (And.intro @e_1.eq_1 (And.intro @e_0.eq_1 (And.intro @e_2.eq_1 (And.intro @e_4.eq_1 (And.intro @e_5.eq_1 (And.intro @e_3.eq_1 (And.intro @e_6.eq_1 (And.intro @e_7.eq_1 (And.intro @e_8.eq_1 (And.intro @e_9.eq_1 (And.intro @joO.eq_1 (And.intro @joP.eq_1 (And.intro @joQ.eq_1 (And.intro @joR.eq_1 (And.intro @joS.eq_1 (And.intro @joW.eq_1 (And.intro @joV.eq_1 (And.intro @joU.eq_1 (And.intro @joT.eq_1 (And.intro @joX.eq_1 (And.intro @joY.eq_1 (And.intro @joZ.eq_1 (And.intro @jo0.eq_1 (And.intro @jo1.eq_1 (@jo2.eq_1))))))))))))))))))))))))))))))))))))))))))))))))))))))))))))))))))))))))))))))):=And.intro @jm.eq_1 (And.intro @kE.eq_1 (And.intro @jw.eq_1 (And.intro @zL.eq_1 (And.intro @jV.eq_1 (And.intro @kK.eq_1 (And.intro @ze.eq_1 (And.intro @yh.eq_1 (And.intro @yo.eq_1 (And.intro @jaQ.eq_1 (And.intro @kF.eq_1 (And.intro @jmU.eq_1 (And.intro @kfn.eq_1 (And.intro @jb3.eq_1 (And.intro @jq.eq_1 (And.intro @kHR.eq_1 (And.intro @kIx.eq_1 (And.intro @kB.eq_1 (And.intro @kRN.eq_1 (And.intro @kRG.eq_1 (And.intro @kIS.eq_1 (And.intro @kRP.eq_1 (And.intro @kLS.eq_1 (And.intro @jy.eq_1 (And.intro @z8.eq_1 (And.intro @ZZ.eq_1 (And.intro @jjX.eq_1 (And.intro @jdJ.eq_1 (And.intro @jam.eq_1 (And.intro @jgH.eq_1 (And.intro @jb4.eq_1 (And.intro @jmS.eq_1 (And.intro @jmT.eq_1 (And.intro @Y5.eq_1 (And.intro @Jr.eq_1 (And.intro @Kh.eq_1 (And.intro @kbN.eq_1 (And.intro @kLb.eq_1 (And.intro @kF2.eq_1 (And.intro @kFN.eq_1 (And.intro @Y4.eq_1 (And.intro @kIP.eq_1 (And.intro @jrH.eq_1 (And.intro @jpe.eq_1 (And.intro @kJ.eq_1 (And.intro @QP.eq_1 (And.intro @zE.eq_1 (And.intro @jfa.eq_1 (And.intro @jW.eq_1 (And.intro @Jz.eq_1 (And.intro @jo.eq_1 (And.intro @jaR.eq_1 (And.intro @yk.eq_1 (And.intro @jgI.eq_1 (And.intro @e_1.eq_1 (And.intro @e_0.eq_1 (And.intro @e_2.eq_1 (And.intro @e_4.eq_1 (And.intro @e_5.eq_1 (And.intro @e_3.eq_1 (And.intro @e_6.eq_1 (And.intro @e_7.eq_1 (And.intro @e_8.eq_1 (And.intro @e_9.eq_1 (And.intro @joO.eq_1 (And.intro @joP.eq_1 (And.intro @joQ.eq_1 (And.intro @joR.eq_1 (And.intro @joS.eq_1 (And.intro @joW.eq_1 (And.intro @joV.eq_1 (And.intro @joU.eq_1 (And.intro @joT.eq_1 (And.intro @joX.eq_1 (And.intro @joY.eq_1 (And.intro @joZ.eq_1 (And.intro @jo0.eq_1 (And.intro @jo1.eq_1 (@jo2.eq_1))))))))))))))))))))))))))))))))))))))))))))))))))))))))))))))))))))))))))))))
theorem g10:G 10 [a,b]=jm 1 a λa=>jm 1 b λb=>zL (jb a 0) λc=>zL (jb b 0) λd=>Jz c d (jo (vb false)) (jjn (vi 0) (jb a 0) (jb b 0)):=gq Tryz.func10
theorem jqu:jjn a b c=kLb a b (jpe 3 b a 0 λd=>jpe 3 c a 0 λe=>(jx .neq true d e).bind λd=>jw d false λ_=>kK d b λe=>kK d a λf=>yh d (js 3 e f) λe=>yh d (jaT e 1) λe=>yh d (kR 2 e) λe=>jw d false λ_=>kK d c λf=>kK d a λg=>yh d (js 3 f g) λf=>yh d (jaT f 1) λf=>yh d (kR 2 f) λf=>jaQ d 24 [e,f] λe=>yh d (Yp .not e) λe=>Kh d (vb true) e (jo (vb false)) (jy a (vi 1) λa=>jjn a b c)) (jo (vb true)):=hq Tryz.func10
theorem juW:G 100 [a]=jm 2 a λa=>brn (jO (jb a 0)) (brn (jO (jb a 0)) (jeF (vi 0) (jb a 0) (jb a 1) (sv []) (jb a 0) [] []) none) none:=gq Tryz.func100
theorem jmX:jeF a b c d e p q=kLb a c (Y4 2 2 c a λf=>(G 100 [f]).bind λf=>jmU f λf=>jm 2 f λf=>brn (ky ((jD q)+(jD [[jb f 0,jb f 1]])) 40) (jy a (vi 1) λa=>jeF a b c d e p (zk q [[jb f 0,jb f 1]])) none) (brn (jO e) (jo (A.agg [e,A.sl 2 q])) none):=hq Tryz.func100
theorem jri:J3 a b c d=(yz a b c d).bind λa=>jq a 0 λb=>jq a 1 λc=>jq a 2 λd=>jq a 3 λa=>z8 a (vi 0) λa=>some (A.top,[b,c,d,a]):=vq Tryz.func101
theorem juX:G 102 [a,b]=kF 61 [a,b] λc=>kJ c (vi 0) (jo (A.tup [A.agg [sv [],A.sl 2 []],vb false])) ((jU a none (some c)).bind λd=>kF2 103 [d] λd e=>jm 2 d λd=>kLS b λb=>jy c b λb=>(jU a (some b) none).bind λa=>kF2 103 [a] λa b=>jm 2 a λa=>brn (jO (jb d 0)) (brn (jO (jb d 1)) (brn (jO (jb a 0)) (brn (jO (jb a 1)) (jb3 e λc=>kK c b λb=>yh c (Yp .not b) λb=>kE c (vb true) b λb=>jw b false λ_=>yh b ((G 55 [A.agg [sv [61],A.sl 2 [[jb d 0,jb d 1],[jb a 0,jb a 1]]]]).bind (fin true)) λc=>yh b (Yp .not c) λc=>Kh b (vb true) c (jo (A.tup [A.agg [sv [],A.sl 2 []],vb false])) (jo (A.tup [A.agg [sv [61],A.sl 2 [[jb d 0,jb d 1],[jb a 0,jb a 1]]],vb true]))) none) none) none) none):=gq Tryz.func102
theorem juY:G 103 [a]=kF2 139 [a,vi 0] λb c=>jm 2 b λb=>kLS a λa=>jb4 c a λa=>jw a false λ_=>jaQ a 97 [yk b] λc=>e_0 a c b:=gq Tryz.func103
theorem juZ:G 104 [a]=kF2 102 [a,sv [32,61,32]] λb c=>jm 2 b λb=>Jr c (e_1 b) (kF2 103 [a] λa b=>jm 2 a λa=>jb3 b λb=>jw b false λ_=>jaQ b 55 [yk a] λc=>e_0 b c a):=gq Tryz.func104
theorem g11:G 11 [a]=brn (jO a) (brn (jO a) ((jjh a (vi 0) (A.val (.int .u64 0))).bind λa=>jq a 0 λb=>jq a 1 λc=>jq a 2 λd=>kHR 3 a 3 λa=>kfn true (G 25 [A.agg [A.sl 3 a]]) λa=>(yz (vi 6) b c d).bind λb=>jq b 0 λc=>jq b 1 λd=>jq b 2 λe=>jq b 3 λb=>jW b (vi 0) ((jl3 a (sv [97,88,102,40,41,44,61,32,126,124,49,95,33,36]) c d e).bind λa=>jq a 0 λ_=>jq a 1 λ_=>jq a 2 λ_=>jq a 3 λa=>jo a) (jW b (vi 1) ((yV c d e [[sv [32,124,32,112,40,97,41]],[sv [32,124,32]],[sv [124]],[sv [32,124,32,36,102,97,108,115,101]],[sv []]]).bind λb=>jq b 0 λ_=>jq b 1 λ_=>jq b 2 λ_=>jq b 3 λb=>jy a b λa=>jo a) (jo a))) none) none:=gq Tryz.func11
theorem jrj:jhW a b c=(yz (vi 8) a b c).bind λa=>jq a 0 λb=>jq a 1 λc=>jq a 2 λd=>jq a 3 λa=>z8 a (vi 0) λe=>Jr e (Jr e (e_2 b c d) (e_3 a b c d)) (jW a (vi 1) (e_2 b c d) (e_3 a b c d)):=vq Tryz.func114
theorem jrk:jhX a b c d=(yV b c d [[sv [88]],[sv [97]]]).bind λb=>jq b 0 λc=>jq b 1 λd=>jq b 2 λe=>jq b 3 λb=>brn (jO b) (brn (jO b) (JG a (sv []) b c d e [] []) none) none:=vq Tryz.func115
theorem jb5:JG a b c d e f p q=zE a (vi 1) (brn (jO c) (Y5 a (vi 1) λa=>JG a b (sv [102]) d e f p [[c,A.sl 2 q]]) none) (e_6 c d e f q):=hq Tryz.func115
theorem jrl:jeC a b c=KJ (vi 0) a b c (sv []) (sv [103]) [] []:=vq Tryz.func116
theorem K2:KJ a b c d e f p q=kJ a (vi 4) (YC a (vi 0) b c d e f (sv [104]) p q []) ((J3 (vi 2) b c d).bind λa=>jq a 0 λb=>jq a 1 λc=>jq a 2 λd=>jq a 3 λa=>Jr a (kB (Qg q) (jfA q 0) (some (vi 3)) λa=>(J3 (vi 2) b c d).bind λb=>jq b 0 λc=>jq b 1 λd=>jq b 2 λe=>jq b 3 λb=>jw b true λ_=>jw b true λ_=>jV b (nA (Yk a 0)) λg=>ze b (jx .eql false g (vi 3)) λg=>Kh b g (vb false) (brn (jnH 0 (Yk a 0) [[sv [102],A.sl 2 [[sv [98],A.sl 2 []]]]] q) (brn (jO f) (some (A.top,[c,d,e,A.agg [f,A.sl 2 (List.take ((Yk a 0)+(Qg [[sv [102],A.sl 2 [[sv [98],A.sl 2 []]]]])) (JY q (0+(Yk a 0)) [[sv [102],A.sl 2 [[sv [98],A.sl 2 []]]]]))]])) none) none) (brn (jO f) (some (A.top,[c,d,e,A.agg [f,A.sl 2 (List.take (Yk a 0) q)]])) none)) ((J3 (vi 2) b c d).bind λa=>jq a 0 λb=>jq a 1 λc=>jq a 2 λd=>jq a 3 λa=>jw a true λ_=>jw a true λ_=>jV a (JX q) λe=>ze a (jx .eql false e (vi 3)) λe=>Kh a e (vb false) (brn (ky ((jD q)+(jD [[sv [102],A.sl 2 [[sv [98],A.sl 2 []]]]])) 40) (brn (jO f) (some (A.top,[b,c,d,A.agg [f,A.sl 2 (zk q [[sv [102],A.sl 2 [[sv [98],A.sl 2 []]]]])]])) none) none) (e_7 f b c d q))):=hq Tryz.func116
theorem K3:YC a b c d e f g h p q r=kJ b (vi 4) (brn (ky ((jD r)+(jD [[sv [102],A.sl 2 [[sv [97],A.sl 2 []]]]])) 40) (jy b (vi 1) λb=>YC a b c d e f g h p q (zk r [[sv [102],A.sl 2 [[sv [97],A.sl 2 []]]]])) none) (brn (jO h) (brn (ky ((jD q)+(jD [[h,A.sl 2 r]])) 40) (jy a (vi 1) λa=>KJ a c d e f g p (zk q [[h,A.sl 2 r]])) none) none):=hq Tryz.func116
theorem qR:zS a b c d=jdJ a (vi 1) λe=>jw e false λ_=>jw e false λf=>brn f ((J3 (vi 3) b c d).bind λb=>jq b 0 λc=>jq b 1 λd=>jq b 2 λf=>jq b 3 λb=>Kh e (vb true) b (e_8 c d f) (e_9 c d f a)) (Kh e (vb true) (A.val undef) (e_8 b c d) (e_9 b c d a)):=vq Tryz.func117
theorem ju0:G 118 [a]=jm 2 a λa=>kF 149 [yk a] λb=>jdJ b (vi 30) λb=>jw b true λ_=>yo b 150 [yk a] λa=>ze b (jx .leq false a (vi 8)) λa=>kE b a (vb false) λa=>jo a:=gq Tryz.func118
theorem ju1:G 119 [a]=jm 2 a λa=>kF 151 [jb a 0] λb=>Jr b (zL (jb a 1) λa=>z8 a (vi 0) λa=>jo a) (kF 120 [jb a 0] λb=>jw b true λ_=>jV b (jb a 1) λc=>ze b (K8 c) λc=>ze b (jx .leq false c (vi 4)) λc=>kE b c (vb false) λb=>jw b true λ_=>jV b (jb a 1) λa=>yo b 152 [a,A.fn 153 []] λa=>ze b (Yp .not a) λa=>kE b a (vb false) λa=>jo a):=gq Tryz.func119
theorem g12:G 12 [a]=kLS a λb=>zE b (vi 4000) (jo (A.tup [A.agg [A.sl 3 []],vb false])) (kF2 30 [a] λa b=>jm 1 a λa=>jo (A.tup [jaR a,b])):=gq Tryz.func12
theorem ju2:G 120 [a]=kLS a λb=>jbl a b (vi 0):=gq Tryz.func120
theorem jfd:jbl a b c=kJ c b (z8 c (vi 0) λd=>jV d a λe=>jV d c λf=>ze d (jT e f) λe=>yo d 154 [e] λe=>ze d (Yp .not e) λe=>kE d e (vb false) λd=>kK d a λe=>kK d c λf=>yh d (jT e f) λe=>jaQ d 154 [e] λe=>yh d (Yp .not e) λe=>kK d e λe=>jV e a λf=>jV e c λg=>ze e (jT f g) λf=>yo e 155 [f] λf=>ze e (Yp .not f) λf=>yh d (zO e f (vb false)) λe=>kK d e λe=>jV e a λf=>jV e c λg=>ze e (jT f g) λf=>ze e (jx .neq false f (vy 95)) λf=>yh d (zO e f (vb false)) λe=>Kh d (vb true) e (jo (vb false)) (jy c (vi 1) λc=>jbl a b c)) (kLS a λb=>kF 69 [b,vi 1,vi 6] λb=>yo b 157 [] λc=>jV b a λa=>yo b 156 [c,a] λa=>ze b (Yp .not a) λa=>kE b a (vb false) λa=>jo a):=hq Tryz.func120
theorem ju3:G 121 [a]=jm 2 a λa=>kF 118 [yk a] λb=>jw b true λ_=>yo b 119 [yk a] λa=>kE b a (vb false) λa=>jo a:=gq Tryz.func121
theorem js7:G 122 [a]=jm 2 a λa=>kIS (jb a 0) (vi 0) λa=>kF 158 [a] λa=>jo a:=gq Tryz.func122
theorem ju4:G 123 [a,b]=kF 159 [a] λc=>kF 159 [b] λd=>joO c d a b:=gq Tryz.func123
theorem ju5:G 124 [a,b,c]=zL a λd=>jeG a b c a d (vi 0):=gq Tryz.func124
theorem jmY:jeG a b c d e f=kJ f e (Y4 2 2 d f λg=>jm 2 g λg=>zL b λh=>jfa f h (jo (vi 1)) (Y4 2 2 b f λh=>jm 2 h λh=>(DX.run K (MM K) (.callc c [yk g,yk h] false)).bind λg=>Jz g (vi 0) (jo g) (jy f (vi 1) λf=>jeG a b c d e f))) (zL a λa=>kLb a b (jo (vi (- 1))) (jo (vi 0))):=hq Tryz.func124
theorem js8:G 125 [a]=jb4 a a λa=>jo a:=gq Tryz.func125
theorem jrm:jeD a b c d=jb3 d λe=>jw e true λ_=>jw e true λ_=>jw e true λ_=>jV e b λf=>jw e true λ_=>jw e true λ_=>jw e true λ_=>jV e c λg=>ze e (jU f (some g) none) λf=>jV e a λa=>yo e 163 [f,a] λa=>kE e a (vb false) λa=>some (A.top,[b,c,d,a]):=vq Tryz.func131
theorem jrn:jeE a b c=KL b a b c:=vq Tryz.func132
theorem jgN:KL a b c d=kLS b λe=>jam c e λe=>jw e true λ_=>jw e true λ_=>jw e true λ_=>jV e b λf=>jw e true λ_=>jw e true λ_=>jw e true λ_=>jV e c λg=>ze e (jT f g) λf=>yo e 154 [f] λf=>jV e f λf=>jw f false λ_=>jw f false λ_=>jw f false λ_=>kK f b λg=>jw f false λ_=>jw f false λ_=>jw f false λ_=>kK f c λh=>yh f (jT g h) λg=>jaQ f 158 [g] λg=>ze e (zO f (vb true) g) λf=>jV e f λf=>jw f false λ_=>jw f false λ_=>jw f false λ_=>kK f b λg=>jw f false λ_=>jw f false λ_=>jw f false λ_=>kK f c λh=>yh f (jT g h) λg=>jaQ f 155 [g] λg=>ze e (zO f (vb true) g) λf=>jV e f λf=>jw f false λ_=>jw f false λ_=>jw f false λ_=>kK f b λg=>jw f false λ_=>jw f false λ_=>jw f false λ_=>kK f c λh=>yh f (jT g h) λg=>yh f (jx .eql false g (vy 95)) λg=>ze e (zO f (vb true) g) λf=>Kh e f (vb false) (jy c (vi 1) λc=>brn (jO c) (KL a b c d) none) (kK d a λe=>jw d false λ_=>jw d false λ_=>jw d false λ_=>kK d c λf=>yh d (jx .eql false e f) λe=>Kh d (vb true) e (some (A.top,[b,c,vb true,sv []])) ((jU b (some a) (some c)).bind λa=>some (A.top,[b,c,d,a]))):=hq Tryz.func132
theorem jmp:jbi a b c d=(qo a b c d).bind λa=>jq a 0 λb=>jq a 1 λc=>jq a 2 λd=>jq a 3 λa=>kbN a (some (A.top,[b,c,vb true])) (some (A.top,[b,c,d])):=vq Tryz.func133
theorem ju6:G 134 [a,b]=jm 2 a λa=>jeH b (vi 1) (vi 0) (jb a 0) (jb a 1):=gq Tryz.func134
theorem jin:jeH a b c d e=zL e λf=>jam c f λf=>jV f b λg=>jV f a λh=>ze f (jx .leq false g h) λg=>Kh f g (vb false) (Y4 2 2 e c λf=>Y5 a b λg=>kF 134 [f,g] λf=>jy b f λb=>jy c (vi 1) λc=>jeH a b c d e) (jo b):=hq Tryz.func134
theorem ju7:G 135 [a]=jm 2 a λa=>jeI (vi 0) (vi 0) (jb a 0) (jb a 1):=gq Tryz.func135
theorem jmZ:jeI a b c d=kLb b d (Y4 2 2 d b λe=>kF 135 [e] λe=>kF 164 [a,e] λa=>jy b (vi 1) λb=>jeI a b c d) (jy a (vi 1) λa=>jo a):=hq Tryz.func135
theorem ju8:G 136 [a]=kLS a λb=>kFN 64 [b,vi 1,vi 4] λb=>kK b a λc=>yh b (jT c (vi 0)) λc=>yh b (jx .lss false c (vy 65)) λc=>kE b (vb true) c λb=>kK b a λc=>yh b (jT c (vi 0)) λc=>yh b (jx .gtr false c (vy 90)) λc=>Kh b (vb true) c (jo (vb false)) (QA a (vi 1)):=gq Tryz.func136
theorem jm0:QA a b=kLS a λc=>kJ b c (kIS a b λc=>kF 137 [c] λc=>kbN c (jo (vb false)) (jy b (vi 1) λb=>QA a b)) (jo (vb true)):=hq Tryz.func136
theorem ju9:G 137 [a]=ZZ a (vy 97) λb=>jV b a λc=>ze b (jx .leq false c (vy 122)) λc=>kE b c (vb false) λb=>kK b a λc=>yh b (jx .geq false c (vy 48)) λc=>kK b c λc=>jV c a λa=>ze c (jx .leq false a (vy 57)) λa=>yh b (zO c a (vb false)) λa=>kE b (vb true) a λa=>jo a:=gq Tryz.func137
theorem jva:G 138 [a,b]=kJ a b (jo (vi (- 1))) (zE a b (jo (vi 1)) (jo (vi 0))):=gq Tryz.func138
theorem jvb:G 139 [a,b]=QB a b b (sv []) []:=gq Tryz.func139
theorem jb6:QB a b c d p=kLS a λe=>jam c e λe=>jV e a λf=>jV e c λg=>ze e (jT f g) λf=>yo e 165 [f] λf=>Kh e f (vb false) (jy c (vi 1) λc=>QB a b c d p) ((jU a (some b) (some c)).bind λe=>brn (jO e) (brn (jO e) (jW c b (brn (jO e) (jo (A.tup [A.agg [e,A.sl 2 []],vi (- 1)])) none) (kLS a λb=>z8 c b λb=>kK b a λf=>kK b c λg=>yh b (jT f g) λf=>yh b (jx .neq false f (vy 40)) λf=>Kh b (vb true) f (brn (jO e) (jo (A.tup [A.agg [e,A.sl 2 []],c])) none) (jeJ a c d e p []))) none) none):=hq Tryz.func139
theorem jb7:jeJ a b c d p q=jy b (vi 1) λb=>kF2 139 [a,b] λb e=>jm 2 b λb=>jam e (vi 0) λf=>kK f e λg=>kK f a λh=>yh f (KD h) λh=>yh f (jx .eql false g h) λg=>kE f (vb true) g λf=>kK f a λg=>kK f e λh=>yh f (jT g h) λg=>yh f (jx .neq false g (vy 44)) λg=>kK f g λg=>jV g a λh=>jV g e λi=>ze g (jT h i) λh=>ze g (jx .neq false h (vy 41)) λh=>yh f (zO g h (vb false)) λg=>Kh f (vb true) g (brn (jO d) (jo (A.tup [A.agg [d,A.sl 2 q],vi (- 1)])) none) (brn (jO (jb b 0)) (brn (jO (jb b 1)) (brn (ky ((jD q)+(jD [[jb b 0,jb b 1]])) 40) (kIS a e λf=>jW f (vy 41) (jy e (vi 1) λa=>brn (jO d) (jo (A.tup [A.agg [d,A.sl 2 (zk q [[jb b 0,jb b 1]])],a])) none) (jeJ a e c d p (zk q [[jb b 0,jb b 1]]))) none) none) none):=hq Tryz.func139
theorem jvc:G 149 [a]=jm 2 a λa=>zL (jb a 1) λb=>jeK (vi 1) (jb a 1) b (vi 0):=gq Tryz.func149
theorem jio:jeK a b c d=kJ d c (Y4 2 2 b d λe=>jm 2 e λe=>zE a (vi 30) (jo a) (kF 149 [yk e] λe=>jy a e λa=>jy d (vi 1) λd=>jeK a b c d)) (jo a):=hq Tryz.func149
theorem jvd:G 150 [a]=jm 2 a λa=>zL (jb a 1) λb=>jeL (vi 0) (jb a 1) b (vi 0):=gq Tryz.func150
theorem jm1:jeL a b c d=kJ d c (Y4 2 2 b d λe=>jm 2 e λe=>kF 150 [yk e] λe=>(jiH a e).bind λa=>jy d (vi 1) λd=>jeL a b c d) (jy a (vi 1) λa=>jo a):=hq Tryz.func150
theorem jve:G 151 [a]=kLS a λb=>jbm a b (vi 0):=gq Tryz.func151
theorem jfe:jbm a b c=kJ c b (z8 c (vi 0) λd=>jV d a λe=>jV d c λf=>ze d (jT e f) λe=>yo d 158 [e] λe=>ze d (Yp .not e) λe=>kE d e (vb false) λd=>kK d c λe=>yh d (jx .gtr false e (vi 0)) λe=>kK d e λe=>jV e a λf=>jV e c λg=>ze e (jT f g) λf=>yo e 154 [f] λf=>ze e (Yp .not f) λf=>yh d (zO e f (vb false)) λe=>kK d e λe=>jV e a λf=>jV e c λg=>ze e (jT f g) λf=>yo e 155 [f] λf=>ze e (Yp .not f) λf=>yh d (zO e f (vb false)) λe=>Kh d (vb true) e (jo (vb false)) (jy c (vi 1) λc=>jbm a b c)) (kLS a λa=>kF 69 [a,vi 1,vi 4] λa=>jo a):=hq Tryz.func151
theorem jvf:G 152 [a,b]=kF 175 [a,b] λa=>ZZ a (vi 0) λa=>jo a:=gq Tryz.func152
theorem jvg:G 153 [a]=jm 2 a λa=>kFN 119 [yk a] λa=>jo a:=gq Tryz.func153
theorem jvh:G 154 [a]=ZZ a (vy 97) λb=>jV b a λa=>ze b (jx .leq false a (vy 122)) λa=>kE b a (vb false) λa=>jo a:=gq Tryz.func154
theorem jvi:G 155 [a]=ZZ a (vy 48) λb=>jV b a λa=>ze b (jx .leq false a (vy 57)) λa=>kE b a (vb false) λa=>jo a:=gq Tryz.func155
theorem jvj:G 156 [a,b]=kF 36 [a,b] λa=>ZZ a (vi 0) λa=>jo a:=gq Tryz.func156
theorem jvk:G 157 []=jo (A.sl 1 [[sv [116,114,117,101]],[sv [102,97,108,115,101]],[sv [116,114,117,116,104]],[sv [98,111,116,104]],[sv [101,105,116,104,101,114]],[sv [105,102]],[sv [97,108,108]],[sv [115,111,109,101]]]):=gq Tryz.func157
theorem jvl:G 158 [a]=ZZ a (vy 65) λb=>jV b a λa=>ze b (jx .leq false a (vy 90)) λa=>kE b a (vb false) λa=>jo a:=gq Tryz.func158
theorem js9:G 159 [a]=jb4 a a λa=>jo a:=gq Tryz.func159
theorem jvm:G 163 [a,b]=kF 176 [a,b] λa=>jo a:=gq Tryz.func163
theorem jvn:G 164 [a,b]=zE a b (jo a) (jo b):=gq Tryz.func164
theorem jvo:G 165 [a]=kF 137 [a] λb=>kK b a λc=>yh b (jx .geq false c (vy 65)) λc=>kK b c λc=>jV c a λd=>ze c (jx .leq false d (vy 90)) λd=>yh b (zO c d (vb false)) λc=>kE b (vb true) c λb=>kK b a λa=>yh b (jx .eql false a (vy 95)) λa=>kE b (vb true) a λa=>jo a:=gq Tryz.func165
theorem jvp:G 175 [a,b]=zL a λc=>jeM a b c (vi 0):=gq Tryz.func175
theorem jm2:jeM a b c d=kJ d c (Y4 2 2 a d λe=>(DX.run K (MM K) (.callc b [e] false)).bind λe=>Jr e (jo d) (jy d (vi 1) λd=>jeM a b c d)) (jo (vi (- 1))):=hq Tryz.func175
theorem jvq:G 176 [a,b]=kLS a λc=>kLS b λd=>ZZ c d λc=>jV c a λa=>jV c b λd=>ze c (KD d) λd=>ze c (jU a none (some d)) λa=>jV c b λb=>ze c (jx .eql false a b) λa=>kE c a (vb false) λa=>jo a:=gq Tryz.func176
theorem jsK:jjg a b c=(jjh a b c).bind λa=>jq a 0 λb=>jq a 1 λc=>jq a 2 λd=>kHR 3 a 3 λa=>(yz (vi 20) b c d).bind λb=>jq b 0 λc=>jq b 1 λd=>jq b 2 λe=>jq b 3 λb=>jW b (vi 0) ((jji c d e).bind λb=>jq b 0 λc=>jq b 1 λd=>jq b 2 λe=>jq b 3 λb=>joP b a c d e) (jW b (vi 1) (zE (JX a) (vi 1) (kIx (jD a) (vi 0) λb=>kRN a b 0 3 λb=>jm 3 b λb=>kIx (jD a) (vi 1) λf=>kRN a f 0 3 λf=>kIx (jD a) (vi 0) λg=>jm 3 f λf=>kRG a g λh=>kIx (jD (Zc a g (qp h 0 [jb f 0,jb f 1,jb f 2]))) (vi 1) λi=>brn (jO (jb b 0)) (brn (jO (jb b 1)) (brn (jO (jb b 2)) (kRG (Zc a g (qp h 0 [jb f 0,jb f 1,jb f 2])) i λj=>some (A.top,[c,d,e,A.agg [A.sl 3 (Zc (Zc a g (qp h 0 [jb f 0,jb f 1,jb f 2])) i (qp j 0 [jb b 0,jb b 1,jb b 2]))]])) none) none) none) (some (A.top,[c,d,e,A.agg [A.sl 3 a]]))) (jW b (vi 2) (Zo (vi 0) c d e [] []) (jW b (vi 3) (zE (JX a) (vi 0) (Y5 (JX a) (vi 1) λb=>kIx (jD a) b λb=>kRN a b 0 3 λb=>joP b a c d e) (some (A.top,[c,d,e,A.agg [A.sl 3 a]]))) (some (A.top,[c,d,e,A.agg [A.sl 3 a]]))))):=vq Tryz.func18
theorem jff:Zo a b c d p q=(yz (vi 2) b c d).bind λb=>jq b 0 λc=>jq b 1 λd=>jq b 2 λe=>jq b 3 λb=>jy (vi 8) b λb=>kJ a b (kF 47 [a] λb=>jy (sv [112]) b λb=>(yV c d e [[sv [88]],[sv [89]]]).bind λc=>jq c 0 λd=>jq c 1 λe=>jq c 2 λf=>jq c 3 λc=>brn (jO c) (brn (jO c) (brn (jO b) (brn (jO b) (brn (jO b) (brn (ky ((jD p)+(jD [[vb true,b,A.sl 2 [[c,A.sl 2 []]]]])) 48) (jy a (vi 1) λa=>Zo a d e f (zk p [[vb true,b,A.sl 2 [[c,A.sl 2 []]]]]) q) none) none) none) none) none) none) (some (A.top,[c,d,e,A.agg [A.sl 3 p]])):=hq Tryz.func18
theorem g19:G 19 [a]=jm 1 a λa=>zL (jb a 0) λb=>jjo (jb a 0) b (vi 0) (jb a 0):=gq Tryz.func19
theorem jqv:jjo a b c d=kJ c b (Y4 3 3 a c λe=>jm 3 e λe=>kFN 48 [jgI e] λf=>kK f c λg=>yh f (jx .gtr false g (vi 0)) λg=>kK f g λg=>jw g true λ_=>jV g d λh=>jV g c λi=>ze g (jx .sub false i (vi 1)) λi=>ze g (js 3 h i) λh=>ze g (kR 3 h) λh=>jw g true λ_=>yo g 49 [h,jgI e] λe=>ze g (jx .geq false e (vi 0)) λe=>yh f (zO g e (vb false)) λe=>Kh f (vb true) e (jo (vb false)) (jy c (vi 1) λc=>jjo a b c d)) (zL d λa=>jdJ a (vi 8) λa=>jo a):=hq Tryz.func19
theorem g20:G 20 [a]=jm 1 a λa=>zL (jb a 0) λb=>jW b (vi 0) (jo (sv [36,102,97,108,115,101])) (zL (jb a 0) λb=>jjp (jb a 0) b (vi 0) []):=gq Tryz.func20
theorem jqw:jjp a b c p=kJ c b (Y4 3 3 a c λd=>jm 3 d λd=>kF 50 [jgI d] λd=>brn (jO d) (brn (ky ((jD p)+(jD [[d]])) 16) (jy c (vi 1) λc=>jjp a b c (zk p [[d]])) none) none) (kfn true (G 51 [A.sl 1 p,sv [32,124,32]]) λa=>jo a):=hq Tryz.func20
theorem g22:G 22 [a]=(yc (kL (K.at 22) 82) [sv [],vi 0,vb false] [(0,a)]).bind λb=>jm 3 b λb=>(jl4 (jb b 0) (jb b 1) (jb b 2)).bind λb=>jq b 0 λc=>jq b 1 λd=>jq b 2 λe=>jq b 3 λb=>jm 3 b λb=>(jjj c d e).bind λc=>jq c 0 λ_=>jq c 1 λ_=>jq c 2 λ_=>jq c 3 λc=>jb3 c λc=>jw c false λ_=>jaQ c 48 [jgI b] λd=>yh c (Yp .not d) λd=>kE c (vb true) d λc=>jw c false λ_=>jaQ c 50 [jgI b] λd=>kK c a λa=>yh c (jx .neq false d a) λa=>Kh c (vb true) a (jo (A.tup [A.agg [vb false,sv [],A.sl 2 []],vb false])) (brn (jO (jb b 0)) (brn (jO (jb b 1)) (brn (jO (jb b 2)) (jo (A.tup [jgI b,vb true])) none) none) none):=gq Tryz.func22
theorem g23:G 23 [a]=jm 1 a λa=>zL (jb a 0) λb=>zE b (vi 8) (jo (vb false)) (jjq (vi 0) (jb a 0)):=gq Tryz.func23
theorem jqx:jjq a b=kLb a b (jrH 2 3 b a 1 λc=>kFN 55 [c] λc=>kK c a λd=>yh c (jx .gtr false d (vi 0)) λd=>kK c d λd=>jw d true λ_=>jV d b λe=>jV d a λf=>ze d (jx .sub false f (vi 1)) λf=>ze d (js 3 e f) λe=>ze d (kR 3 e) λe=>jw d true λ_=>jV d b λf=>jV d a λg=>ze d (js 3 f g) λf=>ze d (kR 3 f) λf=>yo d 56 [e,f] λe=>ze d (jx .geq false e (vi 0)) λe=>yh c (zO d e (vb false)) λd=>Kh c (vb true) d (jo (vb false)) (jy a (vi 1) λa=>jjq a b)) (jo (vb true)):=hq Tryz.func23
theorem g24:G 24 [a,b]=jm 2 a λa=>jm 2 b λb=>jb4 (jb a 0) (jb b 0) λc=>jw c false λ_=>kK c (jb a 1) λd=>yh c (K8 d) λd=>jw c false λ_=>kK c (jb b 1) λe=>yh c (K8 e) λe=>yh c (jx .neq false d e) λd=>Kh c (vb true) d (jo (vb false)) (jjr (vi 0) (jb a 0) (jb a 1) (jb b 0) (jb b 1)):=gq Tryz.func24
theorem jqy:jjr a b c d e=kLb a c (Y4 2 2 c a λf=>Y4 2 2 e a λg=>kF 24 [f,g] λf=>kbN f (jo (vb false)) (jy a (vi 1) λa=>jjr a b c d e)) (jo (vb true)):=hq Tryz.func24
theorem g25:G 25 [a]=jm 1 a λa=>jbn (sv []) (vi 0) (jb a 0):=gq Tryz.func25
theorem jqz:jbn a b c=kLb b c (zE b (vi 0) (jy a (sv [32,124,32]) λa=>Y4 3 3 c b λd=>kF 57 [d] λd=>jy a d λa=>jy b (vi 1) λb=>jbn a b c) (Y4 3 3 c b λd=>kF 57 [d] λd=>jy a d λa=>jy b (vi 1) λb=>jbn a b c)) (jW a (sv []) (jo (sv [36,102,97,108,115,101])) (jo a)):=hq Tryz.func25
theorem jsL:jjh a b c=(jjk (vi 4) a b c).bind λa=>jq a 0 λb=>jq a 1 λc=>jq a 2 λd=>kHR 3 a 3 λa=>(jl5 a).bind λa=>kHR 3 a 0 λa=>some (A.top,[b,c,d,A.sl 3 a]):=vq Tryz.func26
theorem jqh:yz a b c d=QP a (vi 1) (some (A.top,[b,c,d,vi 0])) ((jjl b c d).bind λb=>jq b 0 λc=>jq b 1 λd=>jq b 2 λe=>jq b 3 λb=>zE a (vi 200) (jgH b (vi 256) λb=>(jjl c d e).bind λc=>jq c 0 λd=>jq c 1 λe=>jq c 2 λf=>jq c 3 λc=>jy b c λb=>joQ b a d e f) (joQ b a c d e)):=vq Tryz.func27
theorem jsM:jl3 a b c d e=jW a (sv []) ((jU b none (some (vi 1))).bind λa=>some (A.top,[c,d,e,a])) (kLS a λf=>(yz f c d e).bind λc=>jq c 0 λd=>jq c 1 λe=>jq c 2 λf=>jq c 3 λc=>kLS b λg=>(yz g d e f).bind λd=>jq d 0 λe=>jq d 1 λf=>jq d 2 λg=>jq d 3 λd=>(jU b (some d) none).bind λb=>(jU b none (some (vi 1))).bind λb=>(yz (vi 3) e f g).bind λd=>jq d 0 λe=>jq d 1 λf=>jq d 2 λg=>jq d 3 λd=>jW d (vi 0) ((jU a none (some c)).bind λd=>jy d b λb=>joR a c b e f g) (jW d (vi 1) ((jU a none (some c)).bind λd=>jy d b λb=>joS c a b e f g) ((jU a none (some c)).bind λb=>joS c a b e f g))):=vq Tryz.func28
theorem jsN:yV a b c p=(yz (JX p) a b c).bind λa=>jq a 0 λb=>jq a 1 λc=>jq a 2 λd=>jq a 3 λa=>kIx (jD p) a λa=>kRP p a 0 λa=>some (A.top,[b,c,d,a]):=vq Tryz.func29
theorem g3:G 3 [a]=kF 5 [a] λb=>Jr b (jo (vb true)) (kF 6 [a] λb=>jm 1 b λb=>kF2 7 [jaR b] λc d=>kF2 8 [c] λc e=>jm 1 c λc=>kF 9 [jaR b] λf=>(jx .neq true d f).bind λf=>kK f d λd=>kK f d λd=>jV d e λe=>ze d (Yp .not e) λe=>jV d e λe=>jw e false λ_=>jw e false λ_=>jaQ e 10 [jaR b,jaR c] λb=>yh e (Yp .not b) λb=>ze d (zO e (vb true) b) λb=>yh f (zO d b (vb false)) λb=>Kh f (vb true) b (jo (vb false)) (kF 11 [a] λa=>kF2 8 [a] λb c=>jm 1 b λb=>kF2 12 [a] λd e=>jm 1 d λ_=>kF2 7 [jaR b] λb d=>(jx .eql true c e).bind λe=>jV e c λc=>ze e (Yp .not c) λc=>jV e c λc=>kK c d λd=>kK c d λd=>jV d b λb=>jV d a λa=>ze d (jx .eql false b a) λa=>yh c (zO d a (vb false)) λa=>ze e (zO c (vb true) a) λa=>kE e a (vb false) λa=>jo a)):=gq Tryz.func3
theorem g30:G 30 [a]=jW a (sv [36,102,97,108,115,101]) (jo (A.tup [A.agg [A.sl 3 []],vb true])) (jdr a [] []):=gq Tryz.func30
theorem jca:jdr a p q=Jz a (sv []) (kF 61 [a,sv [32,124,32]] λb=>jfa b (vi 0) (jy b (vi 3) λc=>(jU a (some c) none).bind λc=>(jU a none (some b)).bind λa=>jW c (sv []) (jo (A.tup [A.agg [A.sl 3 []],vb false])) (kF2 62 [a] λa b=>jm 3 a λa=>kbN b (jo (A.tup [A.agg [A.sl 3 []],vb false])) (brn (jO (jb a 0)) (brn (jO (jb a 1)) (brn (jO (jb a 2)) (brn (ky ((jD q)+(jD [[jb a 0,jb a 1,jb a 2]])) 48) (jdr c p (zk q [[jb a 0,jb a 1,jb a 2]])) none) none) none) none))) (kF2 62 [a] λa b=>jm 3 a λa=>kbN b (jo (A.tup [A.agg [A.sl 3 []],vb false])) (brn (jO (jb a 0)) (brn (jO (jb a 1)) (brn (jO (jb a 2)) (brn (ky ((jD q)+(jD [[jb a 0,jb a 1,jb a 2]])) 48) (jdr (sv []) p (zk q [[jb a 0,jb a 1,jb a 2]])) none) none) none) none))) (z8 (JX q) (vi 0) λa=>jw a false λ_=>yh a ((G 23 [A.agg [A.sl 3 q]]).bind (fin true)) λb=>yh a (Yp .not b) λb=>Kh a (vb true) b (jo (A.tup [A.agg [A.sl 3 []],vb false])) (jo (A.tup [A.agg [A.sl 3 q],vb true]))):=hq Tryz.func30
theorem g36:G 36 [a,b]=zL a λc=>jjs a b c (vi 0):=gq Tryz.func36
theorem jqA:jjs a b c d=kJ d c (kIP 1 a d λe=>jW b e (jo d) (jy d (vi 1) λd=>jjs a b c d)) (jo (vi (- 1))):=hq Tryz.func36
theorem jsO:jji a b c=(jjm a b c).bind λa=>jq a 0 λb=>jq a 1 λc=>jq a 2 λd=>jq a 3 λe=>jq a 4 λf=>kHR 2 a 5 λa=>brn (jO e) (brn (jO f) ((yz (vi 16) b c d).bind λb=>jq b 0 λc=>jq b 1 λd=>jq b 2 λg=>jq b 3 λb=>jW b (vi 0) ((jl6 c d g).bind λa=>jq a 0 λb=>jq a 1 λc=>jq a 2 λd=>jq a 3 λa=>jm 2 a λa=>brn (jO e) (brn (jO (jb a 0)) (brn (jO (jb a 1)) (some (A.top,[b,c,d,A.agg [e,jb a 0,jb a 1]])) none) none) none) (jW b (vi 1) ((ZT c d g).bind λb=>jq b 0 λc=>jq b 1 λd=>jq b 2 λg=>jq b 3 λh=>kHR 2 b 4 λb=>brn (jO h) (brn (ky ((jD a)+(jD [[h,A.sl 2 b]])) 40) (brn (jO e) (brn (jO f) (some (A.top,[c,d,g,A.agg [e,f,A.sl 2 (zk a [[h,A.sl 2 b]])]])) none) none) none) none) (brn (jO e) (brn (jO f) (some (A.top,[c,d,g,A.agg [e,f,A.sl 2 a]])) none) none))) none) none:=vq Tryz.func46
theorem g47:G 47 [a]=kJ a (vi 0) ((Yp .neg a).bind λa=>kF 47 [a] λa=>jy (sv [45]) a λa=>jo a) (kJ a (vi 10) (jy a (vi 1) λb=>(jU (sv [48,49,50,51,52,53,54,55,56,57]) (some a) (some b)).bind λa=>jo a) (jmS a (vi 10) λb=>kF 47 [b] λb=>(jx .rem false a (vi 10)).bind λc=>(jx .rem false a (vi 10)).bind λa=>jy a (vi 1) λa=>(jU (sv [48,49,50,51,52,53,54,55,56,57]) (some c) (some a)).bind λa=>jy b a λa=>jo a)):=gq Tryz.func47
theorem g48:G 48 [a]=jm 3 a λa=>kF 78 [A.agg [jb a 1,jb a 2]] λa=>jo a:=gq Tryz.func48
theorem g49:G 49 [a,b]=jm 3 a λa=>jm 3 b λb=>kF 80 [A.agg [jb a 1,jb a 2],A.agg [jb b 1,jb b 2]] λc=>kF 82 [jb a 0] λa=>kF 82 [jb b 0] λb=>kF 81 [a,b] λa=>brn (jO c) (brn (jO a) (kfn true (G 79 [A.sl 1 [[c],[a]]]) λa=>jo a) none) none:=gq Tryz.func49
theorem g5:G 5 [a]=zL a λa=>jjX a (vi 65536) λa=>jo a:=gq Tryz.func5
theorem g50:G 50 [a]=jm 3 a λa=>Jr (jb a 0) (kF 83 [A.agg [jb a 1,jb a 2]] λa=>jo a) (kF 84 [A.agg [jb a 1,jb a 2]] λb=>Jr b (Y4 2 2 (jb a 2) (vi 0) λb=>kF 83 [b] λb=>jy b (sv [32,33,61,32]) λb=>Y4 2 2 (jb a 2) (vi 1) λa=>kF 83 [a] λa=>jy b a λa=>jo a) (kF 83 [A.agg [jb a 1,jb a 2]] λa=>jy (sv [126]) a λa=>jo a)):=gq Tryz.func50
theorem jgb:jl4 a b c=(qo (sv [126]) a b c).bind λa=>jq a 0 λb=>jq a 1 λc=>jq a 2 λd=>jq a 3 λa=>Jr a ((jl7 b c d).bind λa=>jq a 0 λb=>jq a 1 λc=>jq a 2 λd=>jq a 3 λa=>jm 2 a λa=>brn (jO (jb a 0)) (brn (jO (jb a 1)) (some (A.top,[b,c,d,A.agg [vb false,jb a 0,jb a 1]])) none) none) ((Yz b c d).bind λa=>jq a 0 λb=>jq a 1 λc=>jq a 2 λd=>jq a 3 λa=>jm 2 a λa=>(qo (sv [32,33,61,32]) b c d).bind λb=>jq b 0 λc=>jq b 1 λd=>jq b 2 λe=>jq b 3 λb=>Jr b ((Yz c d e).bind λb=>jq b 0 λc=>jq b 1 λd=>jq b 2 λe=>jq b 3 λb=>brn (jO (jb a 0)) (brn (jO (jb a 1)) (jm 2 b λb=>some (A.top,[c,d,e,A.agg [vb false,sv [61],A.sl 2 [[jb a 0,jb a 1],[jb b 0,jb b 1]]]])) none) none) ((qo (sv [32,61,32]) c d e).bind λb=>jq b 0 λc=>jq b 1 λd=>jq b 2 λe=>jq b 3 λb=>Jr b ((Yz c d e).bind λb=>jq b 0 λc=>jq b 1 λd=>jq b 2 λe=>jq b 3 λb=>brn (jO (jb a 0)) (brn (jO (jb a 1)) (jm 2 b λb=>some (A.top,[c,d,e,A.agg [vb true,sv [61],A.sl 2 [[jb a 0,jb a 1],[jb b 0,jb b 1]]]])) none) none) (brn (jO (jb a 0)) (brn (jO (jb a 1)) (brn (jO (jb a 0)) (brn (jO (jb a 1)) (some (A.top,[c,d,e,A.agg [vb true,jb a 0,jb a 1]])) none) none) none) none))):=vq Tryz.func53
theorem jsP:jjj a b c=jb3 c λd=>jw d true λ_=>jw d true λ_=>jw d true λ_=>jV d b λe=>jw d true λ_=>jw d true λ_=>jw d true λ_=>jV d a λf=>ze d (KD f) λf=>ze d (jx .eql false e f) λe=>kE d e (vb false) λd=>some (A.top,[a,b,c,d]):=vq Tryz.func54
theorem g55:G 55 [a]=jm 2 a λa=>jW (jb a 0) (sv [61]) (zL (jb a 1) λb=>z8 b (vi 2) λb=>jw b true λ_=>yo b 94 [yk a] λc=>kE b c (vb false) λb=>jw b true λ_=>jV b (jb a 1) λc=>ze b (js 2 c (vi 0)) λc=>ze b (kR 2 c) λc=>yo b 95 [c] λc=>kE b c (vb false) λb=>jw b true λ_=>jV b (jb a 1) λa=>ze b (js 2 a (vi 1)) λa=>ze b (kR 2 a) λa=>yo b 95 [a] λa=>kE b a (vb false) λa=>jo a) (kF 96 [jb a 0] λb=>jw b true λ_=>yo b 97 [yk a] λa=>kE b a (vb false) λa=>jo a):=gq Tryz.func55
theorem g56:G 56 [a,b]=jm 3 a λa=>jm 3 b λb=>kF 98 [A.agg [jb a 1,jb a 2],A.agg [jb b 1,jb b 2]] λc=>Jz c (vi 0) (jo c) (jb3 (jb a 0) λc=>jw c true λ_=>jV c (jb b 0) λd=>Kh c d (vb false) (jo (vi (- 1))) (jw (jb a 0) true λ_=>jV (jb a 0) (jb b 0) λb=>ze (jb a 0) (Yp .not b) λb=>Kh (jb a 0) b (vb false) (jo (vi 1)) (jo (vi 0)))):=gq Tryz.func56
theorem g57:G 57 [a]=jm 3 a λa=>Jr (jb a 0) (kF 99 [A.agg [jb a 1,jb a 2]] λa=>jo a) (jW (jb a 1) (sv [61]) (Y4 2 2 (jb a 2) (vi 0) λb=>kF 99 [b] λb=>jy b (sv [32,33,61,32]) λb=>Y4 2 2 (jb a 2) (vi 1) λa=>kF 99 [a] λa=>jy b a λa=>jo a) (kF 99 [A.agg [jb a 1,jb a 2]] λa=>jy (sv [126]) a λa=>jo a)):=gq Tryz.func57
theorem jsQ:jl5 p=Zp (vi 0) p [] []:=vq Tryz.func58
theorem jjZ:Zp a p q r=kJ a (JX p) (jaZ a (vi 0) p q r) (some (A.top,[A.sl 3 q])):=hq Tryz.func58
theorem jj0:jaZ a b p q r=jam b (JX q) λc=>jw c true λ_=>jV c b λd=>jw c true λe=>brn e (kIx (jD q) d λd=>ze c (qt q d 0 3) λd=>joT c a p d b q r) (ze c (kR 3 (A.val undef)) λd=>joT c a p d b q r):=hq Tryz.func58
theorem jsR:jjk a b c d=jy a (vi 1) λa=>(yz a b c d).bind λa=>jq a 0 λb=>jq a 1 λc=>jq a 2 λd=>jq a 3 λa=>Zq a b c d []:=vq Tryz.func59
theorem ja6:Zq a b c d p=zE a (vi 0) ((jjm b c d).bind λb=>jq b 0 λc=>jq b 1 λd=>jq b 2 λe=>jq b 3 λf=>jq b 4 λg=>kHR 2 b 5 λb=>brn (jO f) (brn (jO g) (brn (ky ((jD p)+(jD [[f,g,A.sl 2 b]])) 48) (Y5 a (vi 1) λa=>Zq a c d e (zk p [[f,g,A.sl 2 b]])) none) none) none) (jjX (JX p) (vi 0) λa=>jw a true λ_=>jw a true λe=>brn e ((J3 (vi 8) b c d).bind λb=>jq b 0 λc=>jq b 1 λd=>jq b 2 λe=>jq b 3 λb=>Kh a b (vb false) (joX p c d e) (some (A.top,[c,d,e,A.sl 3 p]))) (Kh a (A.val undef) (vb false) (joX p b c d) (some (A.top,[b,c,d,A.sl 3 p])))):=hq Tryz.func59
theorem g6:G 6 [a]=brn (jO a) (brn (jO a) ((jjg a (vi 0) (A.val (.int .u64 0))).bind λa=>jq a 0 λ_=>jq a 1 λ_=>jq a 2 λ_=>jq a 3 λa=>jm 1 a λa=>jo (jaR a)) none) none:=gq Tryz.func6
theorem jsS:jjl a b c=kLb b a (kIP 1 a b λd=>(Qe .i64 d).bind λd=>jy b (vi 1) λb=>brn (jO b) (jgH c (A.val (.int .u64 6364136223846793005)) λc=>(Qe .u64 d).bind λe=>jy c e λc=>jy c (A.val (.int .u64 892892)) λc=>brn (jO c) (zL a λe=>QP b e (some (A.top,[a,b,c,d])) (joY c a b)) none) none) (jy b (vi 1) λb=>brn (jO b) (jgH c (A.val (.int .u64 6364136223846793005)) λc=>(Qe .u64 (vi 0)).bind λd=>jy c d λc=>jy c (A.val (.int .u64 892892)) λc=>brn (jO c) (zL a λd=>QP b d (some (A.top,[a,b,c,vi 0])) (joY c a b)) none) none):=vq Tryz.func60
theorem g61:G 61 [a,b]=jjt a b (vi 0):=gq Tryz.func61
theorem jj1:jjt a b c=kLS b λd=>jy c d λd=>kLS a λe=>QP d e (kLS b λd=>jy c d λd=>(jU a (some c) (some d)).bind λd=>jW d b (jo c) (jy c (vi 1) λc=>jjt a b c)) (jo (vi (- 1))):=hq Tryz.func61
theorem g62:G 62 [a]=kF2 102 [a,sv [32,33,61,32]] λb c=>jm 2 b λb=>Jr c (joZ b) (jb4 a (sv []) λb=>jV b a λc=>ze b (jT c (vi 0)) λc=>ze b (jx .eql false c (vy 126)) λc=>Kh b c (vb false) ((jU a (some (vi 1)) none).bind λa=>kF2 103 [a] λa b=>jm 2 a λa=>jb3 b λb=>jw b false λ_=>jaQ b 55 [yk a] λc=>yh b (Yp .not c) λc=>Kh b (vb true) c (jo (A.tup [A.agg [vb false,sv [],A.sl 2 []],vb false])) (joZ a)) (kF2 104 [a] λa b=>jm 2 a λa=>kbN b (jo (A.tup [A.agg [vb false,sv [],A.sl 2 []],vb false])) (brn (jO (jb a 0)) (brn (jO (jb a 1)) (brn (jO (jb a 0)) (brn (jO (jb a 1)) (jo (A.tup [A.agg [vb true,jb a 0,jb a 1],vb true])) none) none) none) none))):=gq Tryz.func62
theorem g64:G 64 [a,b,c]=jo0 a b c:=gq Tryz.func64
theorem g69:G 69 [a,b,c]=jo0 a b c:=gq Tryz.func69
theorem g7:G 7 [a]=jm 1 a λa=>kF 19 [jaR a] λb=>kbN b (jo (A.tup [sv [],vb false])) (kF 20 [jaR a] λa=>jo (A.tup [a,vb true])):=gq Tryz.func7
theorem jsT:jjm a b c=(J3 (vi 2) a b c).bind λa=>jq a 0 λb=>jq a 1 λc=>jq a 2 λd=>jq a 3 λa=>(jhW b c d).bind λb=>jq b 0 λc=>jq b 1 λd=>jq b 2 λe=>jq b 3 λf=>kHR 2 b 4 λb=>brn (jO a) (brn (jO f) (brn (jO a) (brn (jO f) (some (A.top,[c,d,e,a,f,A.sl 2 b])) none) none) none) none:=vq Tryz.func75
theorem jsU:jl6 a b c=(ZT a b c).bind λa=>jq a 0 λb=>jq a 1 λc=>jq a 2 λd=>jq a 3 λe=>kHR 2 a 4 λa=>brn (jO e) ((yz (vi 24) b c d).bind λb=>jq b 0 λc=>jq b 1 λd=>jq b 2 λf=>jq b 3 λb=>jW b (vi 0) ((yV c d f [[sv []],[sv [116,114,117,101]],[sv [116,114,117,116,104]],[sv [105,102]],[sv [88,121,122,57]],[sv [88,121,122,57,57]],[sv [120,65]],[sv [97,95,98]],[sv [97,98,99,100,101,102]],[sv [97,98,99,100,101,102,103]],[sv [95,97]],[sv [57]],[sv [88,95]],[sv [61]]]).bind λb=>jq b 0 λc=>jq b 1 λd=>jq b 2 λe=>jq b 3 λb=>brn (jO b) (e_7 b c d e a) none) (jW b (vi 1) ((yz (vi 3) c d f).bind λa=>jq a 0 λb=>jq a 1 λc=>jq a 2 λd=>jq a 3 λa=>jy (vi 7) a λa=>(jhX a b c d).bind λa=>jq a 0 λb=>jq a 1 λc=>jq a 2 λd=>jq a 3 λe=>kHR 2 a 4 λa=>e_7 e b c d a) (jW b (vi 2) ((jeC c d f).bind λa=>jq a 0 λb=>jq a 1 λc=>jq a 2 λd=>jq a 3 λa=>jm 2 a λa=>some (A.top,[b,c,d,yk a])) (jW b (vi 3) ((ZT c d f).bind λb=>jq b 0 λc=>jq b 1 λd=>jq b 2 λf=>jq b 3 λg=>kHR 2 b 4 λb=>(ZT c d f).bind λc=>jq c 0 λd=>jq c 1 λf=>jq c 2 λh=>jq c 3 λi=>kHR 2 c 4 λc=>(ZT d f h).bind λd=>jq d 0 λf=>jq d 1 λh=>jq d 2 λj=>jq d 3 λk=>kHR 2 d 4 λd=>brn (jO g) (brn (jO i) (brn (jO k) (brn (ky ((jD a)+(jD [[g,A.sl 2 b],[i,A.sl 2 c],[k,A.sl 2 d]])) 40) (brn (jO e) (some (A.top,[f,h,j,A.agg [e,A.sl 2 (zk a [[g,A.sl 2 b],[i,A.sl 2 c],[k,A.sl 2 d]])]])) none) none) none) none) none) (jW b (vi 4) (zE (JX a) (vi 0) ((yV c d f [[sv [61]],[sv []],[sv [81,49]],[sv [98,50]]]).bind λb=>jq b 0 λc=>jq b 1 λd=>jq b 2 λf=>jq b 3 λb=>kIx (jD a) (vi 0) λg=>kRP a g 1 λg=>(yc (kL (K.at 76) 53) [sv [],A.sl 2 []] [(0,b),(1,g)]).bind λb=>kIx (jD a) (vi 0) λg=>jm 2 b λb=>kRG a g λh=>brn (jO e) (some (A.top,[c,d,f,A.agg [e,A.sl 2 (Zc a g (qp h 0 [jb b 0,jb b 1]))]])) none) (e_7 e c d f a)) (e_7 e c d f a)))))) none:=vq Tryz.func76
theorem jqi:ZT a b c=(yz (vi 3) a b c).bind λa=>jq a 0 λb=>jq a 1 λc=>jq a 2 λd=>jq a 3 λa=>jy (vi 1) a λa=>(zS a b c d).bind λa=>jq a 0 λb=>jq a 1 λc=>jq a 2 λd=>jq a 3 λe=>kHR 2 a 4 λa=>e_6 e b c d a:=vq Tryz.func77
theorem g78:G 78 [a]=jm 2 a λa=>kF 84 [yk a] λb=>Jr b (zL (jb a 1) λb=>z8 b (vi 2) λb=>jw b true λ_=>yo b 118 [yk a] λc=>kE b c (vb false) λb=>jw b true λ_=>jV b (jb a 1) λc=>ze b (js 2 c (vi 0)) λc=>ze b (kR 2 c) λc=>yo b 119 [c] λc=>kE b c (vb false) λb=>jw b true λ_=>jV b (jb a 1) λa=>ze b (js 2 a (vi 1)) λa=>ze b (kR 2 a) λa=>yo b 119 [a] λa=>kE b a (vb false) λa=>jo a) (kF 120 [jb a 0] λb=>jw b true λ_=>yo b 121 [yk a] λa=>kE b a (vb false) λa=>jo a):=gq Tryz.func78
theorem g79:G 79 [a]=zL a λb=>jfY (vi 0) a b (vi 0):=gq Tryz.func79
theorem jm4:jfY a b c d=kJ d c (kIP 1 b d λe=>Jz e a (jo e) (jy d (vi 1) λd=>jfY a b c d)) (jo a):=hq Tryz.func79
theorem g8:G 8 [a]=jW a (sv [36,102,97,108,115,101]) (jo (A.tup [A.agg [A.sl 3 []],vb true])) (kF 21 [a,sv [32,124,32]] λa=>zL a λb=>jor a b (vi 0) [] []):=gq Tryz.func8
theorem jrJ:jor a b c p q=kJ c b (kIP 1 a c λd=>kF2 22 [d] λd e=>jm 3 d λd=>kbN e (jo (A.tup [A.agg [A.sl 3 []],vb false])) (brn (jO (jb d 0)) (brn (jO (jb d 1)) (brn (jO (jb d 2)) (brn (ky ((jD q)+(jD [[jb d 0,jb d 1,jb d 2]])) 48) (jy c (vi 1) λc=>jor a b c p (zk q [[jb d 0,jb d 1,jb d 2]])) none) none) none) none)) (kfn true (G 19 [A.agg [A.sl 3 q]]) λa=>kbN a (jo (A.tup [A.agg [A.sl 3 []],vb false])) (jo (A.tup [A.agg [A.sl 3 q],vb true]))):=hq Tryz.func8
theorem g80:G 80 [a,b]=jm 2 a λa=>jm 2 b λb=>kF 122 [yk a] λc=>kF 122 [yk b] λd=>jV c d λe=>ze c (Yp .not e) λe=>Kh c e (vb false) (jo (vi (- 1))) (jV d c λc=>ze d (Yp .not c) λc=>Kh d c (vb false) (jo (vi 1)) (kF 123 [jb a 0,jb b 0] λc=>zL (jb a 1) λd=>zL (jb b 1) λe=>kF 81 [d,e] λd=>brn (jO c) (brn (jO d) (kfn true (G 79 [A.sl 1 [[c],[d]]]) λc=>Jz c (vi 0) (jo c) (kF 124 [jb a 1,jb b 1,A.fn 80 []] λa=>jo a)) none) none)):=gq Tryz.func80
theorem g81:G 81 [a,b]=kF 125 [a] λc=>kF 125 [b] λd=>joO c d a b:=gq Tryz.func81
theorem g82:G 82 [a]=Jr a (jo (vi 1)) (jo (vi 0)):=gq Tryz.func82
theorem g83:G 83 [a]=jm 2 a λa=>kF 84 [yk a] λb=>Jr b (Y4 2 2 (jb a 1) (vi 0) λb=>kF 83 [b] λb=>jy b (sv [32,61,32]) λb=>Y4 2 2 (jb a 1) (vi 1) λa=>kF 83 [a] λa=>jy b a λa=>jo a) (zL (jb a 1) λb=>jW b (vi 0) (jo (jb a 0)) (zL (jb a 1) λb=>jju (jb a 1) b (vi 0) (jb a 0) (jb a 1) [])):=gq Tryz.func83
theorem jqB:jju a b c d e p=kJ c b (Y4 2 2 a c λf=>jm 2 f λf=>kF 83 [yk f] λf=>brn (jO f) (brn (ky ((jD p)+(jD [[f]])) 16) (jy c (vi 1) λc=>jju a b c d e (zk p [[f]])) none) none) (jy d (sv [40]) λa=>kfn true (G 51 [A.sl 1 p,sv [44]]) λb=>jy a b λa=>jy a (sv [41]) λa=>jo a):=hq Tryz.func83
theorem g84:G 84 [a]=jm 2 a λa=>z8 (jb a 0) (sv [61]) λa=>jo a:=gq Tryz.func84
theorem g9:G 9 [a]=jm 1 a λa=>kF 23 [jaR a] λa=>jo a:=gq Tryz.func9
theorem jqj:qo a b c d=(jeD a b c d).bind λb=>jq b 0 λc=>jq b 1 λd=>jq b 2 λe=>jq b 3 λb=>Jr b (kLS a λa=>jy d a λa=>brn (jO a) (some (A.top,[c,a,e,b])) none) (some (A.top,[c,d,e,b])):=vq Tryz.func91
theorem jmq:jl7 a b c=(Yz a b c).bind λa=>jq a 0 λb=>jq a 1 λc=>jq a 2 λd=>jq a 3 λa=>jm 2 a λa=>(qo (sv [32,61,32]) b c d).bind λb=>jq b 0 λc=>jq b 1 λd=>jq b 2 λe=>jq b 3 λb=>Jr b ((Yz c d e).bind λb=>jq b 0 λc=>jq b 1 λd=>jq b 2 λe=>jq b 3 λb=>brn (jO (jb a 0)) (brn (jO (jb a 1)) (jm 2 b λb=>some (A.top,[c,d,e,A.agg [sv [61],A.sl 2 [[jb a 0,jb a 1],[jb b 0,jb b 1]]]])) none) none) (brn (jO (jb a 0)) (brn (jO (jb a 1)) (some (A.top,[c,d,e,yk a])) none) none):=vq Tryz.func92
theorem jmr:Yz a b c=(jeE a b c).bind λa=>jq a 0 λb=>jq a 1 λc=>jq a 2 λd=>jq a 3 λa=>brn (jO a) (brn (jO a) ((qo (sv [40]) b c d).bind λb=>jq b 0 λc=>jq b 1 λd=>jq b 2 λe=>jq b 3 λb=>Jr b ((Yz c d e).bind λb=>jq b 0 λc=>jq b 1 λd=>jq b 2 λe=>jq b 3 λb=>jm 2 b λb=>jeN c d e (sv []) a [[jb b 0,jb b 1]] []) (brn (jO a) (some (A.top,[c,d,e,A.agg [a,A.sl 2 []]])) none)) none) none:=vq Tryz.func93
theorem jpk:jeN a b c d e p q=jo1 a b c p d e q:=hq Tryz.func93
theorem ja7:YD a b c d e p q=jo1 a b c q d e p:=hq Tryz.func93
theorem g94:G 94 [a]=jm 2 a λa=>kF 134 [yk a,vi 30] λb=>jdJ b (vi 30) λb=>jw b true λ_=>yo b 135 [yk a] λa=>ze b (jx .leq false a (vi 8)) λa=>kE b a (vb false) λa=>jo a:=gq Tryz.func94
theorem g95:G 95 [a]=jm 2 a λa=>kF 136 [jb a 0] λb=>Jr b (zL (jb a 1) λa=>z8 a (vi 0) λa=>jo a) (kFN 96 [jb a 0] λb=>jw b false λ_=>kK b (jb a 1) λc=>yh b (K8 c) λc=>yh b (jx .gtr false c (vi 4)) λc=>Kh b (vb true) c (jo (vb false)) (jjv (vi 0) (jb a 0) (jb a 1))):=gq Tryz.func95
theorem jqC:jjv a b c=kLb a c (Y4 2 2 c a λd=>kF 95 [d] λd=>kbN d (jo (vb false)) (jy a (vi 1) λa=>jjv a b c)) (jo (vb true)):=hq Tryz.func95
theorem g96:G 96 [a]=kLS a λb=>kFN 64 [b,vi 1,vi 6] λb=>kK b a λc=>yh b (jT c (vi 0)) λc=>yh b (jx .lss false c (vy 97)) λc=>kE b (vb true) c λb=>kK b a λc=>yh b (jT c (vi 0)) λc=>yh b (jx .gtr false c (vy 122)) λc=>Kh b (vb true) c (jo (vb false)) (z8 a (sv [116,114,117,101]) λb=>Jr b (Jr b (jo (vb false)) (JH a (vi 1))) (z8 a (sv [102,97,108,115,101]) λb=>Jr b (Jr b (jo (vb false)) (JH a (vi 1))) (z8 a (sv [116,114,117,116,104]) λb=>Jr b (Jr b (jo (vb false)) (JH a (vi 1))) (z8 a (sv [98,111,116,104]) λb=>Jr b (Jr b (jo (vb false)) (JH a (vi 1))) (z8 a (sv [101,105,116,104,101,114]) λb=>Jr b (Jr b (jo (vb false)) (JH a (vi 1))) (z8 a (sv [105,102]) λb=>Jr b (Jr b (jo (vb false)) (JH a (vi 1))) (z8 a (sv [97,108,108]) λb=>Jr b (Jr b (jo (vb false)) (JH a (vi 1))) (jW a (sv [115,111,109,101]) (jo (vb false)) (JH a (vi 1)))))))))):=gq Tryz.func96
theorem jqD:JH a b=kLS a λc=>kJ b c (kIS a b λc=>kFN 137 [c] λc=>jV c a λd=>jV c b λe=>ze c (jT d e) λd=>ze c (jx .neq false d (vy 95)) λd=>Kh c d (vb false) (jo (vb false)) (jy b (vi 1) λb=>JH a b)) (jo (vb true)):=hq Tryz.func96
theorem g97:G 97 [a]=jm 2 a λa=>kF 94 [yk a] λb=>jw b true λ_=>yo b 95 [yk a] λa=>kE b a (vb false) λa=>jo a:=gq Tryz.func97
theorem g98:G 98 [a,b]=jm 2 a λa=>jm 2 b λb=>kF 136 [jb a 0] λc=>kF 136 [jb b 0] λd=>jV c d λe=>ze c (Yp .not e) λe=>Kh c e (vb false) (jo (vi (- 1))) (jb3 c λc=>jV c d λd=>Kh c d (vb false) (jo (vi 1)) (Jz (jb a 0) (jb b 0) (kF 138 [jb a 0,jb b 0] λa=>jo a) (zL (jb a 1) λc=>kLb c (jb b 1) (jo (vi (- 1))) (zL (jb a 1) λc=>zL (jb b 1) λd=>zE c d (jo (vi 1)) (jfZ (vi 0) (jb a 0) (jb a 1) (jb b 0) (jb b 1)))))):=gq Tryz.func98
theorem jqE:jfZ a b c d e=kLb a c (Y4 2 2 c a λf=>Y4 2 2 e a λg=>kF 98 [f,g] λf=>Jz f (vi 0) (jo f) (jy a (vi 1) λa=>jfZ a b c d e)) (jo (vi 0)):=hq Tryz.func98
theorem g99:G 99 [a]=jm 2 a λa=>jW (jb a 0) (sv [61]) (Y4 2 2 (jb a 1) (vi 0) λb=>kF 99 [b] λb=>jy b (sv [32,61,32]) λb=>Y4 2 2 (jb a 1) (vi 1) λa=>kF 99 [a] λa=>jy b a λa=>jo a) (jds (jb a 0) (vi 0) (jb a 0) (jb a 1)):=gq Tryz.func99
theorem jqF:jds a b c d=kLb b d (jW b (vi 0) (jy a (sv [40]) λa=>jo2 d b a c) (jy a (sv [44]) λa=>jo2 d b a c)) (zL d λb=>zE b (vi 0) (jy a (sv [41]) λa=>jo a) (jo a)):=hq Tryz.func99
end
end
end Go.Proofs.YteoaojbmnibpcaaGreatDoor
