/- Pq -/
import Derived.Test.YthlhadhipnokfaaGreatDoorKt
import Derived.KernelRfl
set_option linter.unusedVariables false
namespace Go.Proofs.YthlhadhipnokfaaGreatDoor
open Go Go.RowKit Go.Proofs.YthlhadhipnokfaaGreatDoor.Abs
set_option linter.unusedSimpArgs false
set_option linter.unusedVariables false
noncomputable section
def vT:V:=V.top
def vD(a:A):V:=V.d a
def vP(i:Nat):V:=V.ptr i 0
def vR(i:Nat):V:=V.row i
def tp(n:Nat):Xj:=List.replicate n vT
def pth:Nat->Nat->Xf
 |0,_=>[]
 |k+1,n=>if Nat.ble n 1 then[]else pth k (n/10)++[n%10]
def hs(sh:Option Xf)(f p:Nat)(l:Xj)(n:Nat)(ob:List Abs.Obj):Xe:=MM K (.head f (pth 60 p) (l++tp n) ob sh)
def hd(f p:Nat)(l:Xj)(n:Nat)(ob:List Abs.Obj):Xe:=hs none f p l n ob
theorem gq{f:FuncId}{fn:Func}{l:Xd}{r:Xe}(h3:Tryz.prog.funcs[f]? = some fn)(h2:K.pureF f=true:=by exact rfl)(h4:fn.body.isSome=true:=by exact rfl)(h5:Nat.ble l.length fn.ntmps=true:=by exact rfl)(h1:K.ext f=none:=by exact rfl)(e:evC K (MM K) f (codeOf fn) [] (jaJ fn l) (QG K f fn)=r:=by kernel_rfl):G f l=r:=(jI7 h2 h3 h4 h5 h1).trans e
theorem vq{f:FuncId}{fn:Func}{l:Xj}{ob:List Abs.Obj}{r:Xe}(h3:Tryz.prog.funcs[f]? = some fn)(h1:K.extv f=none:=by exact rfl)(h4:fn.body.isSome=true:=by exact rfl)(h5:Nat.ble l.length fn.ntmps=true:=by exact rfl)(e:evC K (MM K) f (codeOf fn) [] (jdX fn l ob) (QG K f fn)=r:=by kernel_rfl):MM K (.callv f l ob)=r:=(jJb h1 h3 h4 h5).trans e
theorem hq{f:FuncId}{fn:Func}{p:Xf}{l:Xj}{ob:List Abs.Obj}{sh:Option Xf}{r:Xe}(h3:Tryz.prog.funcs[f]? = some fn)(h4:fn.body.isSome=true:=by exact rfl)(e:evAt K (MM K) f (codeOf fn) p [] (St.of fn.ntmps l ob sh) (QG K f fn)=r:=by kernel_rfl):MM K (.head f p l ob sh)=r:=(jI9 h3 h4).trans e
section
variable{B:Type}
def jc(n:Nat)(a:A)(k0:Xd->Option B):Option B:=(jgc n a).bind k0
def kIA(k:Nat)(x i:A)(k0:A->Option B):Option B:=(jk k x i).bind k0
def kM(t:A)(n:Nat)(k0:A->Option B):Option B:=(jbY t n).bind k0
def jQ(t x y:A)(k0:A->Option B):Option B:=(Zf t x y).bind k0
def jl(t:A)(w:Bool)(k0:Bool->Option B):Option B:=(ZL t w).bind k0
def jW(l:A)(k0:A->Option B):Option B:=(kP l).bind k0
def kLN(n:Nat)(a:A)(k0:A->Option B):Option B:=(kC n a).bind k0
def kLP(a:A)(k0:A->Option B):Option B:=(j9 a).bind k0
def jkN(a:A)(n:Nat)(k0:A->Option B):Option B:=(qe a n).bind k0
def jT(t x:A)(k0:A->Option B):Option B:=(pG t true (some x)).bind k0
def jP(t x:A)(k0:A->Option B):Option B:=(pG t false (some x)).bind k0
def kY(t:A)(x:Xl)(k0:A->Option B):Option B:=(pG t true x).bind k0
def km(t:A)(x:Xl)(k0:A->Option B):Option B:=(pG t false x).bind k0
def ya(t:A)(n:Nat)(l:Xd)(k0:A->Option B):Option B:=(pG t true ((G n l).bind (fin false))).bind k0
def yD(t:A)(n:Nat)(l:Xd)(k0:A->Option B):Option B:=(pG t false ((G n l).bind (fin false))).bind k0
def kF(n:Nat)(l:Xd)(k0:A->Option B):Option B:=((G n l).bind (fin false)).bind k0
def zD(o:Out)(k0:A->Option B):Option B:=(fin false o).bind k0
def kfn(b:Bool)(x:Xe)(k0:A->Option B):Option B:=(x.bind (fin b)).bind k0
def YX(x:A)(k0:A->Option B):Option B:=(Jg .not x).bind k0
def yY(o:Out)(i:Nat)(k0:A->Option B):Option B:=(hD o i).bind k0
def yE(k:Nat)(o:Out)(i:Nat)(k0:Xc->Option B):Option B:=(hR k o i).bind k0
def qZ(n:Nat)(i:A)(k0:Nat->Option B):Option B:=(Zt n i).bind k0
def kB(d t:Nat)(x:Xl)(k0:Nat->Option B):Option B:=(pB d t x).bind k0
def kRN(l:Xc)(i j n:Nat)(k0:A->Option B):Option B:=(ZJ l i j n).bind k0
def kRG(l:Xc)(i:Nat)(k0:Xd->Option B):Option B:=(YD l i).bind k0
def kIS(a i:A)(k0:A->Option B):Option B:=(yr a i).bind k0
def kSl(k:Nat)(a:A)(x y:Xl)(k0:A->Option B):Option B:=(yb k a x y).bind k0
def kRP(l:Xc)(i j:Nat)(k0:A->Option B):Option B:=(ZK l i j).bind k0
def kMk(n:Nat)(a b:A)(k0:Nat->Option B):Option B:=(je6 n a b).bind k0
def kRs(k:Nat)(a:A)(k0:Xc->Option B):Option B:=(je7 k a).bind k0
def kLS(a:A)(k0:A->Option B):Option B:=(je3 a).bind k0
def jq(x y:A)(k0:A->Option B):Option B:=(jy .add false x y).bind k0
def zU(x y:A)(k0:A->Option B):Option B:=(jy .eql false x y).bind k0
def jaR(x y:A)(k0:A->Option B):Option B:=(jy .geq false x y).bind k0
def jgI(x y:A)(k0:A->Option B):Option B:=(jy .gtr false x y).bind k0
def jdb(x y:A)(k0:A->Option B):Option B:=(jy .leq false x y).bind k0
def KE(x y:A)(k0:A->Option B):Option B:=(jy .lss false x y).bind k0
def ji5(x y:A)(k0:A->Option B):Option B:=(jy .mul false x y).bind k0
def JQ(x y:A)(k0:A->Option B):Option B:=(jy .neq false x y).bind k0
def juX(x y:A)(k0:A->Option B):Option B:=(jy .quo false x y).bind k0
def jgJ(x y:A)(k0:A->Option B):Option B:=(jy .shr false x y).bind k0
def yp(x y:A)(k0:A->Option B):Option B:=(jy .sub false x y).bind k0
def Jf(t:A)(X Y:Option B):Option B:=(Ja t).bind λu=>brn u X Y
def zJ(c x y:A)(X Y:Option B):Option B:=(Zf c x y).bind λt=>(Ja t).bind λu=>brn u X Y
def qw(x:A)(X Y:Option B):Option B:=(Jg .not x).bind λt=>(Ja t).bind λu=>brn u X Y
def JP(i l:A)(X Y:Option B):Option B:=(kP l).bind λn=>(jy .lss false i n).bind λt=>(Ja t).bind λu=>brn u X Y
def YV(n:Nat)(l:Xd)(k:A->A->Option B):Option B:=((G n l).bind (fin false)).bind λt=>(jbY t 0).bind λa=>(jbY t 1).bind λb=>k a b
def Q0(n:Nat)(l:Xd)(k:A->Option B):Option B:=((G n l).bind (fin false)).bind λt=>(Jg .not t).bind k
def kAP(a:A)(m:Nat)(k:A->Option B):Option B:=(qe a m).bind λt=>(j9 t).bind k
def ye(n m:Nat)(x i:A)(k:A->Option B):Option B:=(jk m x i).bind λt=>(kC n t).bind k
def JO(m:Nat)(x i:A)(k:A->Option B):Option B:=(jk m x i).bind λt=>(j9 t).bind k
def Je(n m:Nat)(x i:A)(o:Nat)(k:A->Option B):Option B:=(jk m x i).bind λt=>(qe t o).bind λt=>(kC n t).bind k
def YW(m:Nat)(x i:A)(o:Nat)(k:A->Option B):Option B:=(jk m x i).bind λt=>(qe t o).bind λt=>(j9 t).bind k
def jB(x y:A)(X Y:Option B):Option B:=(jy .lss false x y).bind λt=>(Ja t).bind λu=>brn u X Y
def jn9(x y:A)(X Y:Option B):Option B:=(jy .leq false x y).bind λt=>(Ja t).bind λu=>brn u X Y
def qk(x y:A)(X Y:Option B):Option B:=(jy .gtr false x y).bind λt=>(Ja t).bind λu=>brn u X Y
def jf2(x y:A)(X Y:Option B):Option B:=(jy .geq false x y).bind λt=>(Ja t).bind λu=>brn u X Y
def yz(x y:A)(X Y:Option B):Option B:=(jy .eql false x y).bind λt=>(Ja t).bind λu=>brn u X Y
def zV(x y:A)(X Y:Option B):Option B:=(jy .neq false x y).bind λt=>(Ja t).bind λu=>brn u X Y
def jf(x:A):Xe:=some (x,[])
def jX(t:Xd):A:=A.agg [jb t 0]
def jH(t:Xd):A:=A.agg [jb t 0,jb t 1]
def Yq(t:Xd):A:=A.agg [jb t 0,jb t 1,jb t 2]
def jF4(t:Xd):A:=A.agg [jb t 0,jb t 1,jb t 2,jb t 3]
end
section
variable(a b c d e f g h i j k l m n o aa ab ac ad ae af ag ah ai aj ak al am:A)(p q r s t u v w x y z:Xc)
def jxB:=MM K (.callv 15 [vD a,vD b] [])
def jmV:=hs (some []) 15 11111010 [vT,vT,vP 0,vT,vT,vT,vR 2,vR 1,vD a] 42 [.box [vD b,vD c],.row 1 p,.row 1 q]
def jd9:=hs (some []) 15 11111010 [vT,vT,vP 0,vT,vT,vT,vR 1,vR 2,vD a] 42 [.box [vD b,vD c],.row 1 p,.row 1 q]
def jpa:=MM K (.callv 16 [vD a,vD b] [])
def jmY:=hs (some []) 16 11111010 ([vT,vT,vP 0]++tp 5++[vR 2]++tp 11++[vR 1,vD a,vD b]) 26 [.box [vD c,vD d],.row 1 p,.row 1 q]
def Q4:=hs (some []) 16 11111010 ([vT,vT,vP 0]++tp 5++[vR 1]++tp 11++[vR 2,vD a,vD b]) 26 [.box [vD c,vD d],.row 1 p,.row 1 q]
def jxI:=MM K (.callv 33 [vR 0,vD a] [.row 1 p])
def jhs:=hs (some [0]) 33 11100 [vR 0,vD a,vT,vT,vT,vD b] 39 [.row 1 p]
def jxJ:=MM K (.callv 34 [vR 0] [.row 1 p])
def jxK:=MM K (.callv 35 [vR 0] [.row 1 p])
def jht:=hs (some [0]) 35 111010 [vR 0,vT,vT,vD a] 57 [.row 1 p]
def jek:=hs (some [0]) 35 1110100100101010 [vR 0,vT,vT,vD a,V.win 0 1 (zq b) (zq c),vD d] 55 [.row 1 p]
def jug:=hd 10 111010 [vD a,vD b,vT,vT,vT,vD c] 20 []
def jsk:=MM K (.callv 122 [V.agg [V.d a,V.d b]] [])
def jmL:=MM K (.callv 122 [vD a] [])
def jua:=MM K (.callv 12 [V.agg [V.row 0,V.row 1],vD a] [.tre true 1 p,.tre true 4 q])
def jh4:=hd 139 1111010 [vD a,vD b,vT,vT,vT,vD c] 21 []
def jhW:=MM K (.callv 13 [vR 0,vD a] [.tre true 1 p])
def jd5:=hs (some [0]) 13 11010 [vR 0,vD a,vT,vT,vT,vD b] 13 [.tre true 1 p]
def juh:=hd 14 11010 [vD a,vD b,vT,vT,vT,vD c] 15 []
def jdn:=MM K (.callv 151 [vD a] [])
def jd8:=hs (some []) 151 111010 [vD a,vT,vT,vR 0,vD b] 18 [.tre false 2 p]
def jmU:=hd 152 111010 [vD a,vD b,vT,vT,vT,vD c] 21 []
def jpc:=hd 20 1111010 [vD a,vD b,vT,vT,vT,vD c] 21 []
def jpd:=hd 21 1111010 [vD a,vD b,vT,vT,vT,vD c] 21 []
def jxC:=MM K (.callv 24 [vD a,vD b] [])
def jee:=hs (some []) 24 1111010 [vT,vD a,vP 0,vT,vT,vR 1,vD b] 57 [.box [vD c,vD d],.row 1 p]
def jhm:=hs (some []) 24 1111010010010 [vT,vD a,vP 0,vT,vT,vR 1,vD b,vD c] 56 [.box [vD d,vD e],.row 1 p]
def Q7:=hs (some []) 24 111111010 [vT,vD a,vT,vT,vT,vR 0,vT,vT,vR 1,vD b] 54 [.row 1 p,.row 1 q]
def jxD:=MM K (.callv 25 [vD a] [])
def jhn:=hs (some []) 25 111010 [vD a,vT,vT,vR 0,vD b] 18 [.tre false 1 p]
def jxE:=MM K (.callv 26 [vD a] [])
def jho:=hs (some []) 26 111010 [vD a,vT,vT,vR 0,vD b] 18 [.tre false 4 p]
def jxF:=MM K (.callv 28 [vD a,vD b] [])
def jcq:=hs (some []) 28 11111010 [vT,vT,vP 0,vT,vT,vR 1,vR 2,vD a] 42 [.box [vD b,vD c],.row 1 p,.row 1 q]
def jhp:=hs (some []) 28 1111101001001110 ([vT,vT,vP 0,vT,vT,vR 1,vR 2,vD a]++tp 29++[vD b,vD c,vD d]) 10 [.box [vD e,vD f],.row 1 p,.row 1 q]
def jui:=hd 29 111010 [vD a,vD b,vT,vT,vT,vD c] 21 []
def juj:=hd 30 111010 [vD a,vD b,vT,vT,vT,vD c] 21 []
def jxG:=MM K (.callv 31 [vR 0,vD a] [.tre true 1 p])
def jhq:=hs (some [0]) 31 11010 [vR 0,vD a,vT,vT,vT,vD b] 14 [.tre true 1 p]
def jxH:=MM K (.callv 32 [vR 0,vD a] [.tre true 4 p])
def jhr:=hs (some [0]) 32 11010 [vR 0,vD a,vT,vT,vT,vD b] 36 [.tre true 4 p]
def jxL:=MM K (.callv 45 [vD a] [])
def jxM:=MM K (.callv 45 [V.agg [V.d a]] [])
def jxN:=MM K (.callv 46 [vD a] [])
def jxO:=MM K (.callv 48 [vR 0] [.row 1 p])
def jhu:=hs (some [0]) 48 110 [vR 0,vT,vD a,vD b] 24 [.row 1 p]
def jub:=MM K (.callv 51 [vR 0,vD a] [.tre true 3 p])
def jhv:=hs (some [0]) 51 11010 [vR 0,vD a,vT,vT,vT,vD b] 33 [.tre true 3 p]
def jpe:=hd 63 1111010 [vD a,vD b,vT,vT,vT,vD c] 21 []
def juc:=MM K (.callv 67 [vD a] [])
def jhw:=hs (some []) 67 111010 [vD a,vT,vT,vR 0,vD b] 18 [.tre false 3 p]
def jud:=MM K (.callv 68 [vD a] [])
def jhx:=hs (some []) 68 111010 [vD a,vT,vT,vR 0,vD b] 17 [.tre false 1 p]
def jun:=hd 69 111010 [vD a,vD b,vT,vT,vT,vD c] 21 []
def juo:=hd 70 111100 [vD a,vT,vT,vD b] 16 []
def jk3:=MM K (.callv 71 [vR 0,vD a] [.tre true 2 p])
def jhy:=hs (some [0]) 71 11010 [vR 0,vD a,vT,vT,vT,vD b] 22 [.tre true 2 p]
def jI6:=MM K (.callv 7 [vD a,vD b] [])
def jkC:=MM K (.callv 8 [V.agg [V.d a,V.d b]] [])
def jxP:=MM K (.callv 95 [vD a] [])
def jvS:=MM K (.callv 9 [vD a,vD b] [])
def jh1:=hd 114 111010 [vT,vP 0,vT,vR 1,vD a] 17 [.box [vD b],.row 1 p]
def Zv:=hd 120 1111010 [vT,vD a,vP 0,vT,vP 1,vT,vP 2,vR 3,vD b] 69 [.box [vD c,vD d],.box [vR 4],.box [vR 5],.row 2 p,.row 3 q,.row 3 r]
def jmO:=hd 121 111010 [vT,vT,vP 0,vP 1,vT,vD a] 33 [.box [vD b,vD c],.box [vD d,vD e]]
def jh2:=hd 125 11010 ([vD a,vD b]++tp 5++[vD c,vD d]) 10 []
def jmP:=hd 126 11010 ([vT,vP 0]++tp 4++[vD a,vD b,vD c]) 27 [.box [vD d]]
def jmQ:=hd 127 11010 (tp 6++[vD a,vD b,vD c]) 10 []
def jmR:=hd 128 11010 ([vD a,vD b]++tp 5++[vD c,vD d]) 10 []
def Ql:=MM K (.callv 129 [vD a,vP 0,vP 1] [.box [vD b,vD c],.box [vD d,vD e,vD f,vD g]])
def jfE:=hd 134 111010 ([vT,vT,vP 0,vT,vT,vT,vR 1]++tp 4++[vD a,vD b,vD c]) 31 [.box [vD d,vD e],.row 2 p]
def jh3:=hd 135 1111010 ([vT,vD a,vT,vT,vP 0,vT,vR 1]++tp 16++[vD b,vD c,vD d]) 27 [.box [vR 2],.row 3 p,.row 3 q]
def jmS:=hd 136 111010 ([vT,vD a,vD b]++tp 12++[vD c,vD d,vD e]) 14 []
def jfB:=MM K (.callv 138 [V.agg [V.d a,V.d b]] [])
def jmT:=hd 141 1111010 [vT,vP 0,vT,vD a] 31 [.box [vD b,vD c]]
def KJ:=hd 142 1111010 [vD a,vT,vT,vD b] 41 []
def jh5:=hd 144 1111010 [vT,vT,vP 0,vP 1,vT,vT,vT,vD a] 67 [.box [vD b,vD c],.box [vD d,vD e]]
def jmM:=MM K (.callv 145 [vD a,vR 0] [.row 1 p])
def jd6:=hs (some [0]) 145 111010 [vT,vR 0,vP 1,vT,vT,vD a] 28 [.row 1 p,.box [vD b,vD c]]
def jd7:=hs (some [2]) 145 111010 [vT,vR 0,vP 1,vT,vT,vD a] 28 [.row 1 p,.box [vD b,vD c],.gone]
def jh6:=hd 155 111010 ([vT,vT,vT,vR 0]++tp 4++[vD a,vD b,vD c]) 9 [.row 1 p]
def jh7:=hd 162 11110 [vT,vD a,vD b,vT,vT,vT,vP 0,vT,vT,vP 1,vD c] 26 [.box [vD d,vR 2],.box [vD e,vD f],.row 2 p]
def jmN:=MM K (.callv 165 [vD a] [])
def jea:=hs (some []) 165 1111010 ([vT,vT,vT,vR 0]++tp 8++[vD a,vD b,vD c]) 11 [.row 2 p]
def jmW:=hd 166 111010 [vT,vD a,vP 0,vT,vT,vD b,vD c] 24 [.box [vD d,vD e]]
def jmX:=hd 167 111010 [vT,vP 0,vT,vD a,vD b] 17 [.box [vD c,vD d]]
def jfF:=hd 168 111010 [vD a,vT,vT,vD b] 25 []
def jmZ:=hd 171 11010 [vD a,vD b,vT,vT,vT,vD c] 12 []
def jsu:=hd 173 1111100 (tp 4++[vP 0,vT,vP 1,vP 2,vR 3]) 140 [.box [vR 4],.box [vR 5],.box [vR 6],.row 4 p,.row 3 q,.row 3 r,.row 3 s]
def jh8:=hd 173 1111100 (tp 4++[vP 0,vT,vP 1,vP 2,V.win 3 4 (zq a) (zq b)]) 140 [.box [vR 4],.box [vR 5],.box [vR 6],.row 4 p,.row 3 q,.row 3 r,.fro 3 s]
def Q5:=hd 173 1111100 (tp 4++[vP 0,vT,vP 1,vP 2,V.win 3 4 (zq a) (zq b)]) 140 [.box [vR 4],.box [vR 5],.box [vD c],.row 4 p,.row 3 q,.row 3 r]
def jm0:=hd 173 1111100010111110011111111111010 (tp 4++[vP 0,vT,vP 1,vP 2,V.win 3 4 (zq a) (zq b),vP 4,vT,vP 5,vT,vD c,vR 9,vD d]) 133 [.box [vR 6],.box [vR 7],.box [vR 8],.row 4 p,.box [vD e,vD f],.box [vD g,vD h],.row 3 q,.row 3 r,.fro 3 s,.row 4 t]
def jm1:=hd 173 1111100010111110011111111111010 (tp 4++[vP 0,vT,vP 1,vP 2,V.win 3 4 (zq a) (zq b),vP 4,vT,vP 5,vT,vD c,vR 8,vD d]) 133 [.box [vR 6],.box [vR 7],.box [vD e],.row 4 p,.box [vD f,vD g],.box [vD h,vD i],.row 3 q,.row 3 r,.row 4 s]
def jsv:=hd 173 1111100010111110011111111111010 (tp 4++[vP 0,vT,vP 1,vP 2,V.win 3 4 (zq a) (zq b),vP 4,vT,vP 5,vT,vD c,vR 6,vD d]) 133 [.box [vR 7],.box [vR 8],.box [vR 9],.row 4 p,.box [vD e,vD f],.box [vD g,vD h],.row 4 q,.row 3 r,.row 3 s,.fro 3 t]
def jdq:=hd 173 1111100 (tp 4++[vP 0,vT,vP 1,vP 2,vR 3]) 140 [.box [vR 4],.box [vR 5],.box [vR 6],.row 4 p,.row 3 q,.row 3 r,.fro 3 s]
def jsw:=hd 173 1111100010111110011111111111010 (tp 4++[vP 0,vT,vP 1,vP 2,V.win 3 4 (zq a) (zq b),vP 4,vT,vP 5,vT,vD c,vR 6,vD d]) 133 [.box [vR 7],.box [vR 8],.box [vD e],.row 4 p,.box [vD f,vD g],.box [vD h,vD i],.row 4 q,.row 3 r,.row 3 s]
def jfG:=hd 173 1111100 (tp 4++[vP 0,vT,vP 1,vP 2,vR 3]) 140 [.box [vR 4],.box [vR 5],.box [vD a],.row 4 p,.row 3 q,.row 3 r]
def jdo:=MM K (.callv 175 [vD a,vD b] [])
def jh9:=hd 177 11010 [vT,vD a,vP 0,vT,vP 1,vT,vD b] 27 [.box [vD c,vD d],.box [vD e,vR 2],.row 2 p]
def jm2:=hd 178 1111010 [vT,vT,vP 0,vP 1,vP 2,vT,vP 3,vD a] 42 [.box [vD b],.box [vD c,vD d],.box [vD e,vR 4],.box [vD f,vR 5],.row 2 p,.row 2 q]
def jia:=hd 179 11111010 [vT,vT,vP 0,vP 1,vT,vP 2,vD a] 43 [.box [vD b,vD c],.box [vD d,vD e],.box [vD f,vR 3,vD g],.row 1 p]
def jm3:=hd 181 11010 [vD a,vT,vT,vD b] 15 []
def jm4:=hd 182 111010 [vT,vD a,vP 0,vT,vP 1,vT,vR 2,vD b] 42 [.box [vD c],.box [vR 3],.row 3 p,.row 3 q]
def jib:=hd 184 111010 [vT,vT,vT,vD a,vT,vT,vD b,vD c,vD d] 9 []
def jbb:=MM K (.callv 188 [vR 0,V.agg [V.d a,V.d b]] [.row 1 p])
def jbj:=hs (some [0]) 188 111010 ([vR 0]++tp 26++[vD a,vD b,vD c]) 8 [.row 1 p]
def jbk:=hs (some [1]) 188 111010 ([vR 0]++tp 26++[vD a,vD b,vD c]) 8 [.row 1 p,.gone]
def jm5:=hd 191 111010 ([vT,vP 0,vP 1,vR 2]++tp 4++[vD a,vD b,vD c]) 12 [.box [vD d],.box [vR 3],.map p,.row 3 q]
def jsx:=hd 192 111100 (tp 4++[vP 0,vT,vP 1,vR 2]) 115 [.box [vR 3],.box [vR 4],.row 4 p,.row 3 q,.row 3 r]
def jic:=hd 192 111100 (tp 4++[vP 0,vT,vP 1,V.win 2 4 (zq a) (zq b)]) 115 [.box [vR 3],.box [vR 4],.row 4 p,.row 3 q,.fro 3 r]
def Q6:=hd 192 111100 (tp 4++[vP 0,vT,vP 1,V.win 2 4 (zq a) (zq b)]) 115 [.box [vR 3],.box [vD c],.row 4 p,.row 3 q]
def jm6:=hd 192 1111000101110111111111010 (tp 4++[vP 0,vT,vP 1,V.win 2 4 (zq a) (zq b),vT,vT,vP 3,vT,vT,vT,vR 6]++tp 32++[vD c,vD d,vD e]) 73 [.box [vR 4],.box [vR 5],.row 4 p,.box [vD f,vD g],.row 3 q,.fro 3 r,.row 4 s]
def jm7:=hd 192 1111000101110111111111010 (tp 4++[vP 0,vT,vP 1,V.win 2 4 (zq a) (zq b),vT,vT,vP 3,vT,vT,vT,vR 5]++tp 32++[vD c,vD d,vD e]) 73 [.box [vR 4],.box [vD f],.row 4 p,.box [vD g,vD h],.row 3 q,.row 4 r]
def jsy:=hd 192 1111000101110111111111010 (tp 4++[vP 0,vT,vP 1,V.win 2 4 (zq a) (zq b),vT,vT,vP 3,vT,vT,vT,vR 4]++tp 32++[vD c,vD d,vD e]) 73 [.box [vR 5],.box [vR 6],.row 4 p,.box [vD f,vD g],.row 4 q,.row 3 r,.fro 3 s]
def jdr:=hd 192 111100 (tp 4++[vP 0,vT,vP 1,vR 2]) 115 [.box [vR 3],.box [vR 4],.row 4 p,.row 3 q,.fro 3 r]
def jsz:=hd 192 1111000101110111111111010 (tp 4++[vP 0,vT,vP 1,V.win 2 4 (zq a) (zq b),vT,vT,vP 3,vT,vT,vT,vR 4]++tp 32++[vD c,vD d,vD e]) 73 [.box [vR 5],.box [vD f],.row 4 p,.box [vD g,vD h],.row 4 q,.row 3 r]
def jfH:=hd 192 111100 (tp 4++[vP 0,vT,vP 1,vR 2]) 115 [.box [vR 3],.box [vD a],.row 4 p,.row 3 q]
def jfC:=MM K (.callv 193 [vR 0] [.row 1 p])
def jeb:=hs (some [0]) 193 111010 ([vR 0,vT,vT,vD a]++tp 5++[vR 0,vD b,vD c]) 24 [.row 1 p]
def jbl:=hs (some [1]) 193 11111010 (tp 6++[vR 0]++tp 18++[vR 1,vD a,vD b]) 8 [.row 3 p,.row 1 q]
def jm8:=hd 196 11010 [vT,vT,vP 0,vT,vP 1,vT,vT,vT,vD a,vD b,vD c] 18 [.box [vD d,vD e],.box [vD f,vR 2],.row 2 p]
def jm9:=hd 204 11010 ([vT,vD a,vD b,vP 0,vT,vT,vP 1]++tp 10++[vD c,vD d,vD e]) 45 [.box [vD f,vD g],.box [vD h,vR 2],.row 2 p]
def jfI:=hd 204 111010 ([vT,vT,vD a,vP 0,vT,vT,vP 1]++tp 33++[vD b,vD c,vD d]) 22 [.box [vD e,vD f],.box [vD g,vR 2],.row 2 p]
def jna:=hd 206 111010 ([vT,vT,vP 0,vT,vP 1,vT,vR 2]++tp 5++[vD a,vD b,vD c]) 26 [.box [vD d],.box [vR 3],.row 3 p,.row 3 q]
def jnb:=hd 207 111010 [vT,vT,vP 0,vP 1,vD a] 17 [.box [vR 2],.box [vD b],.row 3 p]
def jnc:=hd 208 111010 ([vT,vD a,vD b]++tp 12++[vD c,vD d,vD e]) 14 []
def jnd:=hd 210 111010 [vT,vD a,vD b,vP 0,vT,vT,vP 1,vR 2,vD c] 29 [.box [vD d],.box [vR 3],.row 3 p,.row 3 q]
def jne:=hd 213 111010 [vT,vD a,vP 0,vT,vP 1,vT,vR 2,vD b] 37 [.box [vD c],.box [vR 3],.row 3 p,.row 3 q]
def jnf:=hd 214 111010 [vT,vT,vP 0,vT,vP 1,vD a] 19 [.box [vR 2],.box [vD b],.row 3 p]
def jid:=hd 215 11010 [vT,vD a,vP 0,vT,vT,vD b] 16 [.box [vD c]]
def jie:=hd 216 111010 [vD a,vT,vT,vP 0,vT,vD b] 23 [.box [vD c,vD d]]
def jif:=hd 219 11110 [vT,vD a,vD b,vT,vT,vT,vP 0,vT,vT,vP 1,vD c] 26 [.box [vD d,vR 2],.box [vD e,vD f],.row 2 p]
def jig:=hd 221 11010 ([vD a]++tp 4++[vD b,vD c]) 41 []
def jng:=hd 224 11010 ([vD a,vD b,vD c]++tp 8++[vD d,vD e,vD f]) 25 []
def jnh:=hd 227 111010 ([vT,vD a,vT,vT,vP 0,vR 1]++tp 4++[vD b,vD c,vD d]) 16 [.box [vR 2],.row 3 p,.row 3 q]
def jih:=hd 229 111010 ([vT,vT,vP 0,vP 1,vP 2,vT,vP 3]++tp 9++[vD a,vD b,vD c]) 58 [.box [vD d],.box [vD e],.box [vR 4],.box [vR 5],.row 3 p,.row 3 q]
def jfJ:=hd 229 1111010 ([vT,vT,vP 0,vT,vP 1,vT,vP 2]++tp 35++[vD a,vD b,vD c]) 32 [.box [vD d],.box [vR 3],.box [vR 4],.row 3 p,.row 3 q]
def jsl:=MM K (.callv 230 [V.nil 3,vD a] [])
def jsm:=MM K (.callv 231 [vR 0,vD a,vD b] [.row 3 p])
def jsn:=MM K (.callv 232 [vD a] [])
def jsA:=hd 234 1111010 ([vT,vT,vP 0,vT,vP 1,vT,vT,vP 2]++tp 27++[vD a,vD b,vD c]) 13 [.box [vD d],.box [vD e,vR 4],.box [vD f,vR 3],.row 2 p,.row 2 q]
def jsB:=hd 234 1111010 ([vT,vT,vP 0,vT,vP 1,vT,vT,vP 2]++tp 27++[vD a,vD b,vD c]) 13 [.box [vD d],.box [vD e,vR 3],.box [vD f,vR 4],.row 2 p,.row 2 q]
def Q1:=MM K (.callv 235 [vR 0,V.agg [V.d a,V.d b]] [.row 1 p])
def jec:=hs (some [1]) 235 111010 ([vR 0]++tp 22++[vD a,vD b,vD c]) 8 [.row 1 p,.gone]
def jii:=hs (some [0]) 235 111010 ([vR 0]++tp 22++[vD a,vD b,vD c]) 8 [.row 1 p]
def jhX:=MM K (.callv 236 [vR 0] [.row 1 p])
def jso:=MM K (.callv 237 [vR 0,vD a] [.row 1 p])
def jed:=hs (some [1]) 237 111111100 (tp 7++[vR 0,vD a]) 39 [.row 1 p,.row 1 q]
def jni:=hd 239 11010 ([vD a,vD b]++tp 5++[vD c,vD d]) 10 []
def jdp:=MM K (.callv 240 [vR 0,vD a,V.agg [V.d b,V.d c]] [.map p])
def jbm:=hs (some [0]) 240 1111010 ([vR 0]++tp 4++[vP 1]++tp 46++[vD a,vD b,vD c]) 14 [.map p,.box [vD d,vD e]]
def Zu:=MM K (.callv 240 [vR 0,V.agg [V.d a,V.d b],vD c] [.map p])
def jbn:=hs (some [0]) 240 1111010 ([vR 0]++tp 4++[vP 1]++tp 46++[vD a,vD b,vD c]) 14 [.map p,.box [vD d,vD e]]
def jnj:=hd 241 1111010 ([vT,vD a,vT,vT,vP 0,vT,vT,vP 1]++tp 22++[vD b,vD c,vD d]) 13 [.box [vD e,vR 2],.box [vD f,vR 3],.row 2 p,.row 2 q]
def jnk:=hd 242 111010 [vT,vT,vT,vD a,vT,vT,vT,vD b,vD c,vD d] 12 []
def jnl:=hd 243 111010 [vT,vT,vT,vD a,vT,vT,vT,vD b,vD c,vD d] 10 []
def jnm:=hd 245 111010 [vT,vT,vP 0,vP 1,vT,vT,vT,vD a,vD b,vD c] 19 [.box [vR 2],.box [vR 3],.row 3 p,.row 3 q]
def jnn:=hd 246 111010 [vT,vD a,vT,vT,vT,vR 0,vT,vT,vT,vD b,vD c,vD d] 12 [.map p]
def jno:=hd 247 11010010 [vT,vD a,vD b,vP 0,vT,vT,vP 1,vD c] 50 [.box [vD d,vD e],.box [vD f,vR 2],.row 2 p]
def jnp:=hd 247 1111010 [vT,vD a,vD b,vP 0,vT,vT,vP 1,vT,vP 2,vD c] 48 [.box [vD d,vD e],.box [vD f,vR 3],.box [vD g,vR 4],.row 2 p,.row 2 q]
def jfK:=hd 248 111010 [vD a,vT,vP 0,vR 1,vD b] 69 [.box [vR 2],.row 3 p,.row 3 q]
def jnq:=hd 248 1110100100100 [vD a,vT,vP 0,vR 1,vD b,vD c] 68 [.box [vR 2],.row 3 p,.row 3 q]
def jnr:=hd 249 11010 [vT,vP 0,vT,vD a] 51 [.box [vD b]]
def jsp:=MM K (.callv 253 [V.agg [V.row 0],vD a,V.agg [V.d b,V.d c]] [.row 3 p])
def jij:=hs (some [3]) 253 111100 [vT,vD a,vT,vP 0,vT,vP 1,vP 2,vD b] 43 [.box [vR 3],.box [vD c,vD d],.box [vR 4],.row 3 p,.row 3 q]
def jhY:=MM K (.callv 253 [V.agg [V.row 0],vD a,vD b] [.row 3 p])
def jbo:=hs (some [3]) 253 111100 [vT,vD a,vT,vP 0,vT,vP 1,vP 2,vD b] 43 [.box [vR 3],.box [vD c,vD d],.box [vR 4],.row 3 p,.row 3 q]
def jik:=hd 254 11100 [vD a,vD b,vT,vT,vT,vD c] 39 []
def jns:=hd 255 111010 [vT,vP 0,vT,vD a] 57 [.box [vD b,vD c,vD d]]
def jfL:=hd 259 111010 [vT,vD a,vD b,vP 0,vT,vT,vP 1,vT,vD c,vD d] 70 [.box [vD e,vD f],.box [vD g,vR 2],.row 2 p]
def jfM:=hd 259 11101001001110 [vT,vD a,vD b,vP 0,vT,vT,vP 1,vT,vD c,vD d,vP 2,vT,vD e] 67 [.box [vD f,vD g],.box [vD h,vR 3],.box [vD i,vD j],.row 2 p]
def jil:=hd 260 11010 ([vD a]++tp 4++[vD b,vD c]) 33 []
def jnt:=hd 266 11010 ([vD a,vD b]++tp 5++[vD c,vD d]) 10 []
def jfN:=hd 271 1111010 ([vT,vD a,vT,vT,vP 0,vP 1]++tp 24++[vD b,vD c,vD d]) 13 [.box [vD e,vR 2],.box [vD f,vR 3],.row 2 p,.row 2 q]
def jnu:=hd 273 11010 ([vT,vP 0]++tp 4++[vD a,vD b,vD c]) 43 [.box [vD d]]
def jsq:=MM K (.callv 275 [vR 0,V.fn 276 []] [.row 3 p])
def jim:=hd 281 11010 ([vT,vT,vT,vP 0,vP 1,vP 2]++tp 9++[vD a,vD b,vD c]) 49 [.box [vD d,vD e,vD f],.box [vD g,vD h],.box [vD i,vD j]]
def jsr:=MM K (.callv 283 [vR 0,V.fn 154 []] [.row 3 p])
def jss:=MM K (.callv 284 [vR 0,V.fn 137 []] [.row 3 p])
def jef:=hs (some [0]) 284 111010 [vR 0,V.fn 137 [],vT,vT,vT,vD a] 60 [.row 3 p]
def jbp:=hs (some [0]) 284 1110100100101010 [vR 0,V.fn 137 [],vT,vT,vT,vD a,V.win 0 3 (zq b) (zq c),vD d] 58 [.row 3 p]
def jnv:=hd 285 111010 [vD a,vT,vT,vP 0,vT,vD b] 22 [.box [vD c,vD d]]
def jnw:=hd 286 111010 [vT,vT,vP 0,vP 1,vP 2,vP 3,vD a] 56 [.box [vD b],.box [vD c],.box [vR 4],.box [vR 5],.row 3 p,.row 3 q]
def jin:=hd 286 1111010 [vT,vT,vP 0,vP 1,vP 2,vP 3,vT,vD a] 55 [.box [vD b],.box [vD c],.box [vR 4],.box [vR 5],.row 3 p,.row 3 q]
def jnx:=hd 287 111010 [vT,vT,vP 0,vP 1,vT,vD a] 26 [.box [vD b,vD c,vD d],.box [vD e,vD f]]
def jny:=hd 288 111010 [vT,vT,vP 0,vP 1,vT,vD a,vD b] 21 [.box [vD c,vD d],.box [vD e,vD f]]
def jio:=hd 289 1111010 [vT,vT,vP 0,vP 1,vT,vD a,vD b] 31 [.box [vD c,vD d,vD e],.box [vD f,vD g]]
def jip:=hd 291 11010 [vT,vT,vP 0,vP 1,vT,vD a] 20 [.box [vD b,vD c],.box [vD d,vD e]]
def jnz:=hd 292 111010 [vT,vD a,vP 0,vT,vT,vR 1,vD b] 26 [.box [vD c,vD d],.row 1 p]
def jhZ:=MM K (.callv 293 [vD a,V.agg [V.d b,V.d c],vR 0] [.row 3 p])
def jbq:=hs (some [0]) 293 11010010 [vT,vT,vR 0,vP 1,vP 2,vT,vT,vT,vD a] 77 [.row 3 p,.box [vD b,vD c],.box [vD d,vD e]]
def jeg:=hs (some [0]) 293 1111010 ([vT,vT,vR 0,vP 1,vP 2]++tp 4++[vD a]) 76 [.row 3 p,.box [vD b,vD c],.box [vD d,vD e]]
def jeh:=hs (some [3]) 293 1111010 ([vT,vT,vR 0,vP 1,vP 2]++tp 4++[vD a]) 76 [.row 3 p,.box [vD b,vD c],.box [vD d,vD e],.gone]
def jxR:=hs (some [3]) 293 1111010 ([vT,vT,vR 0,vP 1,vP 2]++tp 4++[vD a]) 76 [.gone,.box [vD b,vD c],.box [vD d,vD e],.gone]
def jnA:=hd 294 111010 [vD a,vT,vP 0,vP 1,vD b] 20 [.box [vR 2],.box [vR 3],.row 3 p,.row 3 q]
def jiq:=hd 299 1111010 ([vT,vD a,vT,vT,vT,vD b]++tp 7++[vD c,vD d,vD e]) 10 []
def jir:=hd 300 111100 ([vD a,vD b,vD c]++tp 5++[vD d,vD e,vD f]) 38 []
def jnB:=hd 315 1111010 ([vT,vT,vP 0,vT,vT,vD a]++tp 16++[vD b,vD c,vD d]) 10 [.box [vD e,vD f,vD g]]
def jnC:=hd 317 111010 ([vT,vT,vT,vP 0,vP 1,vP 2]++tp 20++[vD a,vD b,vD c]) 21 [.box [vD d,vD e],.box [vD f,vR 3],.box [vD g,vR 4],.row 2 p,.row 2 q]
def jnD:=hd 319 11010 [vT,vD a,vP 0,vT,vT,vD b] 15 [.box [vD c,vD d,vD e]]
def jis:=hd 320 1111010 [vT,vD a,vP 0,vT,vT,vD b,vD c] 21 [.box [vD d,vD e]]
def juk:=hd 43 111010 [vT,vP 0,vT,vD a] 24 [.box [vD b,vD c]]
def jul:=hd 44 11010 [vT,vP 0,vT,vD a] 12 [.box [vD b,vD c]]
def jum:=hd 58 11010 ([vT,vP 0]++tp 4++[vD a,vD b]) 8 [.box [vD c,vD d]]
def jc1:=hd 66 111010 [vT,vD a,vP 0,vT,vT,vP 1,vD b] 36 [.box [vD c,vD d],.box [vD e,vD f,vD g,vD h]]
def jup:=hd 83 111010 [vT,vP 0,vP 1,vP 2,vD a] 22 [.box [vD b,vD c],.box [vD d,vR 3],.box [vD e,vR 4],.row 2 p,.row 2 q]
def jue:=MM K (.callv 83 [V.agg [V.d a,V.d b]] [])
def jhz:=hs (some []) 83 111010 [vT,vP 0,vP 1,vP 2,vD a] 22 [.box [vD b,vD c],.box [vD d,vR 3],.box [vD e,vR 4],.row 2 p,.row 2 q]
def juf:=MM K (.callv 84 [vD a] [])
def juq:=hd 87 111010 ([vT,vT,vP 0,vP 1]++tp 4++[vD a,vD b,vD c]) 12 [.box [vR 2],.box [vR 3],.row 3 p,.row 3 q]
def jur:=hd 91 111010 [vT,vP 0,vT,vD a] 38 [.box [vD b]]
def jus:=hd 92 111010 [vT,vT,vT,vD a,vD b] 16 []
def jut:=hd 94 111010 [vT,vT,vP 0,vP 1,vT,vD a] 43 [.box [vD b],.box [vD c]]
def jbc:=MM K (.callv 293 [vD a,vD b,vR 0] [.row 3 p])
def jbr:=hs (some [0]) 293 11010010 [vT,vT,vR 0,vP 1,vP 2,vT,vT,vT,vD a] 77 [.row 3 p,.box [vD b,vD c],.box [vD d,vD e]]
def jei:=hs (some [0]) 293 1111010 ([vT,vT,vR 0,vP 1,vP 2]++tp 4++[vD a]) 76 [.row 3 p,.box [vD b,vD c],.box [vD d,vD e]]
def jej:=hs (some [3]) 293 1111010 ([vT,vT,vR 0,vP 1,vP 2]++tp 4++[vD a]) 76 [.row 3 p,.box [vD b,vD c],.box [vD d,vD e],.gone]
def jxS:=hs (some [3]) 293 1111010 ([vT,vT,vR 0,vP 1,vP 2]++tp 4++[vD a]) 76 [.gone,.box [vD b,vD c],.box [vD d,vD e],.gone]
def e_0(a:A)(p:Xc)(b:A)(q:Xc)(c:A):Xe:=jB a (yB p) (qZ (jv p) a λd=>kRP p d 0 λd=>ye 4 4 b d λd=>jc 4 d λd=>yz (jb d 0) (vi 1) (JO 1 (jb d 2) (vi 0) λd=>(jxI d q).bind λd=>yE 1 d 0 λd=>jq a (vi 1) λa=>jd9 a c b d p) (jq a (vi 1) λa=>jd9 a c b q p)) (some (A.top,[vb true,A.sl 1 q]))
def e_1(a:A)(b:A)(p:Xc)(c:A)(q:Xc)(d:A):Xe:=jB a b (qZ (jv p) a λe=>kRP p e 0 λe=>YW 4 c e 0 λf=>yz f (vi 1) (YW 4 c e 2 λe=>JO 1 e (vi 0) λe=>brn (jU e) (brn (jM ((jv q)+(jv [[e]])) 8) (jq a (vi 1) λa=>Q4 b a d c (jR q [[e]]) p) none) none) (jq a (vi 1) λa=>Q4 b a d c q p)) ((jxJ q).bind λa=>yE 1 a 0 λa=>(jxK a).bind λa=>yE 1 a 0 λa=>some (A.top,[vb true,A.sl 1 a]))
def e_3(a:A)(b:A)(c:A)(p:Xc)(d:A):Xe:=jT a b λe=>kY a (jy .eql false c e) λc=>zJ a c (vb false) (some (A.top,[A.sl 1 p])) (kB (zX p) (zj p 0) (some d) λa=>brn (jM (jv (yI p 0 (kz a 0))) 8) (brn (jU b) (brn (jM ((jv (yI p 0 (kz a 0)))+(jv [[b]])) 8) (kB (zX p) (zj p 0) none λc=>kB 0 c (some d) λd=>brn (jM ((jv (jR (yI p 0 (kz a 0)) [[b]]))+(jv (yI p (0+d) (kz c d)))) 8) (some (A.top,[A.sl 1 (jR (jR (yI p 0 (kz a 0)) [[b]]) (yI p (0+d) (kz c d)))])) none) none) none) none)
def e_2(a:A)(b:A)(c:A)(d:A)(p:Xc):Xe:=jT a b λe=>kY a (jy .lss false c e) λc=>zJ a c (vb false) (jq d (vi 1) λa=>jhs b a p) (KE d (yB p) λa=>jl a true λ_=>jT a d λc=>jl a true λe=>brn e (qZ (jv p) c λc=>kY a (ZK p c 0) λc=>e_3 a b c p d) (kY a (j9 (A.val undef)) λc=>e_3 a b c p d))
def e_4(c:Out)(p:Xc)(a:A)(q:Xc)(b:A):Xe:=yY c 0 λd=>yE 1 c 1 λc=>brn (qM d) (brn (KD c) (kfn true (G 10 [A.sl 1 c,A.sl 1 p]) λc=>YX c λc=>jP c d λd=>jP c a λa=>km c (jy .neq true d a) λa=>zJ c (vb true) a (jf (vb false)) (kfn true (G 14 [A.sl 1 q,vi 1]) λa=>jB a (vi 0) (jf (vb false)) (zV a b (jf (vb false)) (jf (vb true))))) none) none
def e_5(a:A)(b:A)(c:A)(d:A):Xe:=Jf a (Jf b (jf (vi 0)) (jf (vi (- 1)))) (Jf b (jf (vi 1)) (jB c d (jf (vi (- 1))) (qk c d (jf (vi 1)) (jf (vi 0)))))
def e_6(a:A)(b:A)(c:A):Xe:=jaR a b λb=>jT b a λa=>jT b c λc=>kY b (jy .leq false a c) λa=>jQ b a (vb false) λa=>jf a
def e_7(a:A)(b:A)(c:A)(d:A)(e:A)(p:Xc)(f:A)(g:A):Xe:=zJ a b (vb false) (YW 4 c d 1 λa=>JO 1 a e λa=>qZ (jv p) a λa=>kRG p a λb=>jq e (vi 1) λe=>jhm f d e g c (kX p a (jS b 0 [vb true]))) (yp d (vi 1) λa=>jee f a g c p)
def e_8(a:Xd)(b:Xd):Xe:=JO 1 (jb a 2) (vi 0) λa=>ye 1 1 (jb b 0) a λa=>jc 1 a λa=>jf (A.tup [jX a,vb true])
def e_9(a:A)(b:A)(c:Xd):Xe:=kY a (Jg .not b) λb=>jQ a b (vb false) λa=>brn (jU (jb c 0)) (jf (A.tup [jX c,a])) none
def jCs(a:A)(b:A)(p:Xc)(c:A):Xe:=JP a b (ye 2 2 b a λd=>(jmM d p).bind λd=>yE 1 d 0 λd=>jq a (vi 1) λa=>jd7 a c b d) (some (A.top,[A.sl 1 p]))
def jCt(a:A)(b:A)(d:Xd)(c:A):Xe:=YV 173 [a,b] λa b=>jc 1 a λa=>qw b (jf (A.tup [A.agg [A.sl 3 []],vb false])) ((jdo (jb d 0) c).bind λb=>yE 3 b 0 λb=>(G 174 [jX a,A.sl 3 b]).bind λa=>zD a λa=>kM a 0 λb=>kM a 1 λa=>jc 1 b λb=>jf (A.tup [jX b,a]))
def jCu(a:Out)(b:Xd):Xe:=yE 3 a 0 λa=>(G 163 [jX b,A.sl 3 a]).bind λa=>zD a λa=>kM a 0 λb=>kM a 1 λa=>jc 1 b λb=>jf (A.tup [jX b,a])
def jCv(a:A)(b:A)(d:Xd)(c:A):Xe:=YV 192 [a,b] λa b=>jc 1 a λa=>qw b (jf (A.tup [A.agg [A.sl 3 []],vb false])) (kF 194 [jX d,c] λb=>(G 163 [jX a,b]).bind λa=>zD a λa=>kM a 0 λb=>kM a 1 λa=>jc 1 b λb=>jf (A.tup [jX b,a]))
def jCw(a:A)(b:A)(c:A):Xe:=brn (jU a) (brn (jU b) (jf (A.tup [A.agg [a,b],c,vb true])) none) none
def jv3(a:A)(b:Xd):Xe:=qw a (jf (A.tup [A.agg [A.sl 3 []],vb false])) (brn (jU (jb b 0)) (jf (A.tup [jX b,vb true])) none)
def jCy(a:Out)(p:Xc)(b:Nat)(c:Nat)(q:Xc)(r:Xc):Xe:=zD a λa=>kM a 0 λd=>kM a 1 λa=>jc 1 d λd=>qw a (jf (A.tup [A.agg [A.sl 3 p],vb false])) (Q5 (nA (0+b)) (nA (kz c b)) (jb d 0) q r p)
def jyx(p:Xc)(a:Xd)(b:Xd)(q:Xc)(c:Nat)(d:Nat)(r:Xc)(s:Xc):Xe:=(G 212 [A.agg [A.sl 3 p],jb a 0,jH b]).bind λa=>jCy a q c d r s
def jCx(p:Xc)(q:Xc)(r:Xc)(s:Xc):Xe:=qk (yB p) (vi 0) (qZ (jv p) (vi 0) λa=>kRN p a 0 2 λa=>(G 211 [A.agg [A.sl 3 q],a]).bind λa=>zD a λa=>kM a 0 λb=>kM a 1 λa=>jc 2 b λb=>qZ (jv p) (vi 0) λc=>kRN p c 2 2 λc=>(G 211 [A.agg [A.sl 3 q],c]).bind λc=>zD c λc=>kM c 0 λd=>kM c 1 λc=>jc 2 d λd=>YX a λa=>jP a c λc=>km a (Jg .not c) λc=>zJ a (vb true) c (jf (A.tup [A.agg [A.sl 3 r],vb false])) (kB (zX p) (zj p 0) none λa=>kB 0 a (some (vi 1)) λc=>kF 121 [jH b,jH d] λe=>Jf e (qw (vb true) (jf (A.tup [A.agg [A.sl 3 r],vb false])) (jh8 (nA (0+c)) (nA (kz a c)) p s r q)) (kF 168 [jb b 0] λe=>jl e true λ_=>jT e (jb d 0) λf=>ya e 168 [f] λf=>jQ e f (vb false) λe=>jl e true λ_=>jT e (jb b 0) λf=>jl e true λ_=>jT e (jb d 0) λg=>kY e (jy .lss false f g) λf=>zJ e f (vb false) (jyx q d b r c a p s) (kF 168 [jb b 0] λe=>Jf e (jyx q b d r c a p s) (kF 168 [jb d 0] λe=>Jf e (jyx q d b r c a p s) (JQ (jb b 0) (jb d 0) λe=>jl e false λ_=>jP e (jb b 1) λf=>km e (kP f) λf=>jl e false λ_=>jP e (jb d 1) λg=>km e (kP g) λg=>km e (jy .neq false f g) λf=>zJ e (vb true) f (jf (A.tup [A.agg [A.sl 3 r],vb false])) (jm0 (nA (0+c)) (nA (kz a c)) (vb true) (vi 0) (jb b 0) (jb b 1) (jb d 0) (jb d 1) p s r q []))))))) (jf (A.tup [A.agg [A.sl 3 q],vb true]))
def jCz(b:Out)(p:Xc)(a:A)(c:Nat)(d:Nat)(q:Xc)(r:Xc):Xe:=zD b λb=>kM b 0 λe=>kM b 1 λb=>jc 1 e λe=>qw b (jf (A.tup [A.agg [A.sl 3 p],vb false])) (Q5 (nA ((zq a)+c)) (nA (kz d c)) (jb e 0) q r p)
def jyy(p:Xc)(b:Xd)(c:Xd)(q:Xc)(a:A)(d:Nat)(e:Nat)(r:Xc)(s:Xc):Xe:=(G 212 [A.agg [A.sl 3 p],jb b 0,jH c]).bind λb=>jCz b q a d e r s
def jyz(a:A)(c:Xd)(d:Xd)(p:Xc)(b:A)(e:Nat)(f:Nat)(q:Xc)(r:Xc):Xe:=(G 212 [A.agg [a],jb c 0,jH d]).bind λa=>jCz a p b e f q r
def jCA(a:A)(b:A)(c:A)(p:Xc)(d:A)(e:A)(f:A)(g:A)(h:A)(q:Xc)(r:Xc)(s:Xc)(t:Xc):Xe:=JP a b (ye 2 2 b a λi=>ye 2 2 c a λj=>(zH (zF (K.at 173) 199) [sv [],A.sl 2 [],sv [],A.sl 2 []] [(0,i),(1,j)]).bind λi=>jc 4 i λi=>brn (jM ((jv p)+(jv [[jb i 0,jb i 1,jb i 2,jb i 3]])) 80) (jq a (vi 1) λa=>jsv (nA (zq d)) (nA (zq e)) f a g b h c q (jR p [[jb i 0,jb i 1,jb i 2,jb i 3]]) r s t) none) (brn (jM ((jv p)+(jv (yI q (zq d) (zq e)))) 80) (qw f (jf (A.tup [A.agg [A.sl 3 s],vb false])) (jdq (jR p (yI q (zq d) (zq e))) r s t)) none)
def jCB(a:A)(b:A)(c:A)(p:Xc)(d:A)(e:A)(f:A)(g:A)(h:A)(i:A)(q:Xc)(r:Xc)(s:Xc):Xe:=JP a b (ye 2 2 b a λj=>ye 2 2 c a λk=>(zH (zF (K.at 173) 199) [sv [],A.sl 2 [],sv [],A.sl 2 []] [(0,j),(1,k)]).bind λj=>jc 4 j λj=>brn (jM ((jv p)+(jv [[jb j 0,jb j 1,jb j 2,jb j 3]])) 80) (jq a (vi 1) λa=>jsw (nA (zq d)) (nA (zq e)) f a g h b i c q (jR p [[jb j 0,jb j 1,jb j 2,jb j 3]]) r s) none) (brn (jM ((jv p)+(jv (yI q (zq d) (zq e)))) 80) (qw f (jf (A.tup [A.agg [A.sl 3 s],vb false])) (jfG g (jR p (yI q (zq d) (zq e))) r s)) none)
def jyA(a:A)(b:Xd)(c:Xd)(p:Xc)(d:Nat)(e:Nat)(q:Xc)(r:Xc):Xe:=(G 212 [A.agg [a],jb b 0,jH c]).bind λa=>jCy a p d e q r
def jCC(a:Xd):Xe:=brn (jU (jb a 0)) (brn (jU (jb a 0)) (jf (A.agg [jb a 0,A.sl 2 []])) none) none
def jCD(a:Out):Xe:=yY a 0 λb=>yE 2 a 1 λa=>brn (jU b) (jf (A.agg [b,A.sl 2 a])) none
def jCE(p:Xc)(a:A)(b:A)(c:A):Xe:=qZ (jv p) a λa=>jc 2 b λb=>kRG p a λd=>brn (jU c) (jf (A.agg [c,A.sl 2 (kX p a (jS d 0 [jb b 0,jb b 1]))])) none
def jCF(a:A)(b:A)(c:A)(p:Xc):Xe:=jB a b (ye 2 2 c a λd=>jc 2 d λd=>(jbb (jb d 0) (jb d 1) p).bind λd=>yE 1 d 0 λd=>jq a (vi 1) λa=>jbk c b a d) (some (A.top,[A.sl 1 p]))
def jCH(a:Out)(b:Nat)(c:Nat)(p:Xc)(q:Xc):Xe:=zD a λa=>kM a 0 λd=>kM a 1 λa=>jc 1 d λd=>qw a (jf (A.tup [A.agg [A.sl 3 []],vb false])) (Q6 (nA (0+b)) (nA (kz c b)) (jb d 0) p q)
def jCG(p:Xc)(q:Xc)(r:Xc):Xe:=qk (yB p) (vi 0) (qZ (jv p) (vi 0) λa=>kRN p a 0 2 λa=>(G 198 [A.agg [A.sl 3 q],a]).bind λa=>zD a λa=>kM a 0 λb=>kM a 1 λa=>jc 2 b λb=>qZ (jv p) (vi 0) λc=>kRN p c 2 2 λc=>(G 198 [A.agg [A.sl 3 q],c]).bind λc=>zD c λc=>kM c 0 λd=>kM c 1 λc=>jc 2 d λd=>kB (zX p) (zj p 0) none λe=>kB 0 e (some (vi 1)) λf=>YX a λa=>jP a c λc=>km a (Jg .not c) λc=>zJ a (vb true) c (jf (A.tup [A.agg [A.sl 3 []],vb false])) (kF 164 [jH b,jH d] λa=>Jf a (jic (nA (0+f)) (nA (kz e f)) p r q) (kF 197 [jH b] λa=>jl a false λ_=>yD a 197 [jH d] λc=>zJ a (vb true) c (brn (jU (jb b 0)) (brn (jU (jb b 1)) (brn (jU (jb d 0)) (brn (jU (jb d 1)) (YV 228 [A.agg [jb b 0,jb b 1,jb d 0,jb d 1]] λa b=>jc 1 a λa=>qw b (jf (A.tup [A.agg [A.sl 3 []],vb false])) ((G 229 [A.agg [A.sl 3 q],jX a]).bind λa=>jCH a f e p r)) none) none) none) none) (JQ (jb b 0) (jb d 0) λa=>jl a false λ_=>jP a (jb b 1) λc=>km a (kP c) λc=>jl a false λ_=>jP a (jb d 1) λg=>km a (kP g) λg=>km a (jy .neq false c g) λc=>zJ a (vb true) c (jf (A.tup [A.agg [A.sl 3 []],vb false])) (jW (jb b 1) λa=>jm6 (nA (0+f)) (nA (kz e f)) (jb b 1) a (vi 0) (jb d 0) (jb d 1) p r q []))))) (jf (A.tup [A.agg [A.sl 3 q],vb true]))
def jCI(b:Out)(a:A)(c:Nat)(d:Nat)(p:Xc)(q:Xc):Xe:=zD b λb=>kM b 0 λe=>kM b 1 λb=>jc 1 e λe=>qw b (jf (A.tup [A.agg [A.sl 3 []],vb false])) (Q6 (nA ((zq a)+c)) (nA (kz d c)) (jb e 0) p q)
def jCJ(a:A)(b:A)(c:A)(d:A)(p:Xc)(e:A)(f:A)(g:A)(q:Xc)(r:Xc)(s:Xc):Xe:=jB a b (ye 2 2 c a λh=>jc 2 h λh=>ye 2 2 d a λi=>brn (jU (jb h 0)) (brn (jU (jb h 1)) (jc 2 i λi=>brn (jU (jb h 0)) (brn (jU (jb h 1)) (brn (jU (jb i 0)) (brn (jU (jb i 1)) (brn (jM ((jv p)+(jv [[jb h 0,jb h 1,jb i 0,jb i 1]])) 80) (jq a (vi 1) λa=>jsy (nA (zq e)) (nA (zq f)) c b a g d q (jR p [[jb h 0,jb h 1,jb i 0,jb i 1]]) r s) none) none) none) none) none) none) none) (brn (jM ((jv p)+(jv (yI q (zq e) (zq f)))) 80) (jdr (jR p (yI q (zq e) (zq f))) r s) none)
def jCK(a:A)(b:A)(c:A)(d:A)(p:Xc)(e:A)(f:A)(g:A)(h:A)(q:Xc)(r:Xc):Xe:=jB a b (ye 2 2 c a λi=>jc 2 i λi=>ye 2 2 d a λj=>brn (jU (jb i 0)) (brn (jU (jb i 1)) (jc 2 j λj=>brn (jU (jb i 0)) (brn (jU (jb i 1)) (brn (jU (jb j 0)) (brn (jU (jb j 1)) (brn (jM ((jv p)+(jv [[jb i 0,jb i 1,jb j 0,jb j 1]])) 80) (jq a (vi 1) λa=>jsz (nA (zq e)) (nA (zq f)) c b a g h d q (jR p [[jb i 0,jb i 1,jb j 0,jb j 1]]) r) none) none) none) none) none) none) none) (brn (jM ((jv p)+(jv (yI q (zq e) (zq f)))) 80) (jfH g (jR p (yI q (zq e) (zq f))) r) none)
def jCL(a:A)(b:Xd):Xe:=qw a (jf (A.tup [A.agg [sv [],A.sl 2 []],vb false])) (brn (jU (jb b 0)) (brn (jU (jb b 1)) (jf (A.tup [jH b,vb true])) none) none)
def jCM(a:A)(b:A)(c:A)(d:A)(p:Xc)(e:A)(f:A)(q:Xc):Xe:=jB a b (ye 2 2 c a λg=>jc 2 g λg=>kF 234 [A.agg [d],jH g] λg=>qZ (jv p) a λh=>jc 2 g λg=>kRG p h λi=>jq a (vi 1) λa=>jsB c b a d e f q (kX p h (jS i 0 [jb g 0,jb g 1]))) (brn (jU f) (jf (A.agg [f,A.sl 2 p])) none)
def jCN(a:A)(b:A)(c:A)(p:Xc):Xe:=jB a b (ye 2 2 c a λd=>jc 2 d λd=>(Q1 (jb d 0) (jb d 1) p).bind λd=>yE 1 d 0 λd=>jq a (vi 1) λa=>jec c b a d) (some (A.top,[A.sl 1 p]))
def jCO(a:A):Xe:=brn (jU a) (brn (jU a) (jf (A.agg [a,A.sl 2 []])) none) none
def jCQ(a:A)(b:A)(c:A)(d:A)(p:Xc)(q:Xc)(e:A):Xe:=jT a b λf=>jT a c λg=>kY a (jk 3 f g) λf=>kY a (kC 3 f) λf=>ya a 113 [d,f] λd=>kY a (jy .eql false d (vi 0)) λd=>zJ a d (vb false) (jq c (vi 1) λa=>jfK b a p q) (YW 3 b c 0 λa=>Je 2 3 b c 1 λd=>(G 83 [d]).bind λd=>zD d λd=>(zH (zF (K.at 248) 95) [vb false,sv [],A.sl 2 []] [(0,a),(1,d)]).bind λa=>jc 3 a λa=>kB (zX p) (zj p 0) (some e) λd=>brn (jM (jv (yI p 0 (kz d 0))) 48) (brn (jU (jb a 0)) (brn (jU (jb a 1)) (brn (jU (jb a 2)) (brn (jM ((jv (yI p 0 (kz d 0)))+(jv [[jb a 0,jb a 1,jb a 2]])) 48) (kB (zX p) (zj p 0) none λf=>kB 0 f (some e) λe=>brn (jM ((jv (jR (yI p 0 (kz d 0)) [[jb a 0,jb a 1,jb a 2]]))+(jv (yI p (0+e) (kz f e)))) 48) (jq c (vi 1) λc=>jfK b c (jR (jR (yI p 0 (kz d 0)) [[jb a 0,jb a 1,jb a 2]]) (yI p (0+e) (kz f e))) q) none) none) none) none) none) none)
def jCP(a:A)(b:A)(c:A)(d:A)(e:A)(p:Xc)(q:Xc):Xe:=jT a b λf=>jT a c λg=>kY a (jk 3 f g) λf=>kY a (kC 3 f) λf=>ya a 113 [d,f] λd=>kY a (jy .lss false d (vi 0)) λd=>zJ a d (vb false) (jq e (vi 1) λa=>jnq b c a p q) (KE e (yB p) λa=>jl a true λ_=>jT a e λd=>jl a true λf=>brn f (qZ (jv p) d λd=>kY a (ZJ p d 0 3) λd=>jCQ a b c d p q e) (kY a (kC 3 (A.val undef)) λd=>jCQ a b c d p q e))
def jCS(p:Xc)(a:A)(b:A)(c:A)(d:A):Xe:=kB (zX p) (zj p 0) (some a) λe=>brn (jM (jv (yI p 0 (kz e 0))) 56) ((G 83 [A.agg [b,c]]).bind λb=>zD b λb=>(zH (zF (K.at 253) 206) [sv [],sv [],A.sl 2 []] [(0,d),(1,b)]).bind λb=>jc 3 b λb=>brn (jM ((jv (yI p 0 (kz e 0)))+(jv [[jb b 0,jb b 1,jb b 2]])) 56) (kB (zX p) (zj p 0) none λc=>kB 0 c (some a) λa=>brn (jM ((jv (jR (yI p 0 (kz e 0)) [[jb b 0,jb b 1,jb b 2]]))+(jv (yI p (0+a) (kz c a)))) 56) (some (A.top,[A.sl 3 (jR (jR (yI p 0 (kz e 0)) [[jb b 0,jb b 1,jb b 2]]) (yI p (0+a) (kz c a)))])) none) none) none
def jCR(a:A)(b:A)(c:A)(d:A)(e:A)(f:A)(p:Xc)(q:Xc):Xe:=jT a b λg=>kY a (jy .lss false c g) λc=>zJ a c (vb false) (jq d (vi 1) λa=>jij b a e f p q) (jCS p d e f b)
def jCT(a:A)(b:A)(c:A)(d:A)(e:A)(f:A)(p:Xc)(q:Xc):Xe:=jT a b λg=>kY a (jy .lss false c g) λc=>zJ a c (vb false) (jq d (vi 1) λa=>jbo b a e f p q) (jCS p d e f b)
def jCU(p:Xc)(a:A)(b:A)(c:A):Xe:=qZ (jv p) a λa=>kRN p a 1 2 λa=>kF 121 [a,A.agg [b,c]] λa=>some (A.top,[a,A.sl 259 p])
def jCV(a:A)(b:A)(c:A)(p:Xc):Xe:=brn (jU a) (brn (jU b) (brn (jU c) (brn (jU a) (brn (jU b) (brn (jU c) (brn (jM ((jv p)+(jv [[a,b,c]])) 56) (some (A.top,[vb true,A.sl 259 (jR p [[a,b,c]])])) none) none) none) none) none) none) none
def jv4:Xe:=((pNo (vb false)).bind λ_=>some [[]]).bind λa=>some (A.top,vb false::(slL [259] a))
def jCW(a:A)(b:A)(c:A)(p:Xc)(d:A)(e:A):Xe:=JP a b (ye 2 2 b a λf=>ye 2 2 c a λg=>(jbc f g p).bind λf=>yY f 0 λg=>yE 259 f 1 λf=>Jf g (qw g jv4 (jq a (vi 1) λa=>jeh a d b e c f)) (qw g jv4 (jq a (vi 1) λa=>jxR a d b e c))) (some (A.top,[vb true,A.sl 259 p]))
def jCX(a:A)(b:A)(c:A)(p:Xc)(d:A)(e:A):Xe:=JP a b (ye 2 2 b a λf=>ye 2 2 c a λg=>(jbc f g p).bind λf=>yY f 0 λg=>yE 259 f 1 λf=>Jf g (qw g jv4 (jq a (vi 1) λa=>jej a d b e c f)) (qw g jv4 (jq a (vi 1) λa=>jxS a d b e c))) (some (A.top,[vb true,A.sl 259 p]))
theorem cev:type_of% (And.intro @jc.eq_1 (And.intro @kIA.eq_1 (And.intro @kM.eq_1 (And.intro @jQ.eq_1 (And.intro @jl.eq_1 (And.intro @jW.eq_1 (And.intro @kLN.eq_1 (And.intro @kLP.eq_1 (And.intro @jkN.eq_1 (And.intro @jT.eq_1 (And.intro @jP.eq_1 (And.intro @kY.eq_1 (And.intro @km.eq_1 (And.intro @ya.eq_1 (And.intro @yD.eq_1 (And.intro @kF.eq_1 (And.intro @zD.eq_1 (And.intro @kfn.eq_1 (And.intro @YX.eq_1 (And.intro @yY.eq_1 (And.intro @yE.eq_1 (And.intro @qZ.eq_1 (And.intro @kB.eq_1 (And.intro @kRN.eq_1 (And.intro @kRG.eq_1 (And.intro @kIS.eq_1 (And.intro @kSl.eq_1 (And.intro @kRP.eq_1 (And.intro @kMk.eq_1 (And.intro @kRs.eq_1 (And.intro @kLS.eq_1 (And.intro @jq.eq_1 (And.intro @zU.eq_1 (And.intro @jaR.eq_1 (And.intro @jgI.eq_1 (And.intro @jdb.eq_1 (And.intro @KE.eq_1 (And.intro @ji5.eq_1 (And.intro @JQ.eq_1 (And.intro @juX.eq_1 (And.intro @jgJ.eq_1 (And.intro @yp.eq_1 (And.intro @Jf.eq_1 (And.intro @zJ.eq_1 (And.intro @qw.eq_1 (And.intro @JP.eq_1 (And.intro @YV.eq_1 (And.intro @Q0.eq_1 (And.intro @kAP.eq_1 (And.intro @ye.eq_1 (And.intro @JO.eq_1 (And.intro @Je.eq_1 (And.intro @YW.eq_1 (And.intro @jB.eq_1 (And.intro @jn9.eq_1 (And.intro @qk.eq_1 (And.intro @jf2.eq_1 (And.intro @yz.eq_1 (And.intro @zV.eq_1 (And.intro @jf.eq_1 (And.intro @jX.eq_1 (And.intro @jH.eq_1 (And.intro @Yq.eq_1 (And.intro @jF4.eq_1 (And.intro @e_0.eq_1 (And.intro @e_1.eq_1 (And.intro @e_3.eq_1 (And.intro @e_2.eq_1 (And.intro @e_4.eq_1 (And.intro @e_5.eq_1 (And.intro @e_6.eq_1 (And.intro @e_7.eq_1 (And.intro @e_8.eq_1 (And.intro @e_9.eq_1 (And.intro @jCs.eq_1 (And.intro @jCt.eq_1 (And.intro @jCu.eq_1 (And.intro @jCv.eq_1 (And.intro @jCw.eq_1 (And.intro @jv3.eq_1 (And.intro @jCy.eq_1 (And.intro @jyx.eq_1 (And.intro @jCx.eq_1 (And.intro @jCz.eq_1 (And.intro @jyy.eq_1 (And.intro @jyz.eq_1 (And.intro @jCA.eq_1 (And.intro @jCB.eq_1 (And.intro @jyA.eq_1 (And.intro @jCC.eq_1 (And.intro @jCD.eq_1 (And.intro @jCE.eq_1 (And.intro @jCF.eq_1 (And.intro @jCH.eq_1 (And.intro @jCG.eq_1 (And.intro @jCI.eq_1 (And.intro @jCJ.eq_1 (And.intro @jCK.eq_1 (And.intro @jCL.eq_1 (And.intro @jCM.eq_1 (And.intro @jCN.eq_1 (And.intro @jCO.eq_1 (And.intro @jCQ.eq_1 (And.intro @jCP.eq_1 (And.intro @jCS.eq_1 (And.intro @jCR.eq_1 (And.intro @jCT.eq_1 (And.intro @jCU.eq_1 (And.intro @jCV.eq_1 (And.intro @jv4.eq_1 (And.intro @jCW.eq_1 (@jCX.eq_1)))))))))))))))))))))))))))))))))))))))))))))))))))))))))))))))))))))))))))))))))))))))))))))))))))))))))))))))):=And.intro @jc.eq_1 (And.intro @kIA.eq_1 (And.intro @kM.eq_1 (And.intro @jQ.eq_1 (And.intro @jl.eq_1 (And.intro @jW.eq_1 (And.intro @kLN.eq_1 (And.intro @kLP.eq_1 (And.intro @jkN.eq_1 (And.intro @jT.eq_1 (And.intro @jP.eq_1 (And.intro @kY.eq_1 (And.intro @km.eq_1 (And.intro @ya.eq_1 (And.intro @yD.eq_1 (And.intro @kF.eq_1 (And.intro @zD.eq_1 (And.intro @kfn.eq_1 (And.intro @YX.eq_1 (And.intro @yY.eq_1 (And.intro @yE.eq_1 (And.intro @qZ.eq_1 (And.intro @kB.eq_1 (And.intro @kRN.eq_1 (And.intro @kRG.eq_1 (And.intro @kIS.eq_1 (And.intro @kSl.eq_1 (And.intro @kRP.eq_1 (And.intro @kMk.eq_1 (And.intro @kRs.eq_1 (And.intro @kLS.eq_1 (And.intro @jq.eq_1 (And.intro @zU.eq_1 (And.intro @jaR.eq_1 (And.intro @jgI.eq_1 (And.intro @jdb.eq_1 (And.intro @KE.eq_1 (And.intro @ji5.eq_1 (And.intro @JQ.eq_1 (And.intro @juX.eq_1 (And.intro @jgJ.eq_1 (And.intro @yp.eq_1 (And.intro @Jf.eq_1 (And.intro @zJ.eq_1 (And.intro @qw.eq_1 (And.intro @JP.eq_1 (And.intro @YV.eq_1 (And.intro @Q0.eq_1 (And.intro @kAP.eq_1 (And.intro @ye.eq_1 (And.intro @JO.eq_1 (And.intro @Je.eq_1 (And.intro @YW.eq_1 (And.intro @jB.eq_1 (And.intro @jn9.eq_1 (And.intro @qk.eq_1 (And.intro @jf2.eq_1 (And.intro @yz.eq_1 (And.intro @zV.eq_1 (And.intro @jf.eq_1 (And.intro @jX.eq_1 (And.intro @jH.eq_1 (And.intro @Yq.eq_1 (And.intro @jF4.eq_1 (And.intro @e_0.eq_1 (And.intro @e_1.eq_1 (And.intro @e_3.eq_1 (And.intro @e_2.eq_1 (And.intro @e_4.eq_1 (And.intro @e_5.eq_1 (And.intro @e_6.eq_1 (And.intro @e_7.eq_1 (And.intro @e_8.eq_1 (And.intro @e_9.eq_1 (And.intro @jCs.eq_1 (And.intro @jCt.eq_1 (And.intro @jCu.eq_1 (And.intro @jCv.eq_1 (And.intro @jCw.eq_1 (And.intro @jv3.eq_1 (And.intro @jCy.eq_1 (And.intro @jyx.eq_1 (And.intro @jCx.eq_1 (And.intro @jCz.eq_1 (And.intro @jyy.eq_1 (And.intro @jyz.eq_1 (And.intro @jCA.eq_1 (And.intro @jCB.eq_1 (And.intro @jyA.eq_1 (And.intro @jCC.eq_1 (And.intro @jCD.eq_1 (And.intro @jCE.eq_1 (And.intro @jCF.eq_1 (And.intro @jCH.eq_1 (And.intro @jCG.eq_1 (And.intro @jCI.eq_1 (And.intro @jCJ.eq_1 (And.intro @jCK.eq_1 (And.intro @jCL.eq_1 (And.intro @jCM.eq_1 (And.intro @jCN.eq_1 (And.intro @jCO.eq_1 (And.intro @jCQ.eq_1 (And.intro @jCP.eq_1 (And.intro @jCS.eq_1 (And.intro @jCR.eq_1 (And.intro @jCT.eq_1 (And.intro @jCU.eq_1 (And.intro @jCV.eq_1 (And.intro @jv4.eq_1 (And.intro @jCW.eq_1 (@jCX.eq_1)))))))))))))))))))))))))))))))))))))))))))))))))))))))))))))))))))))))))))))))))))))))))))))))))))))))))))))))
theorem jHn(r0:Xc):jxJ r0=joS [V.row 0] [.row 1 r0]:=Eq.trans (jB9 (x:=jE0) rfl) rfl
theorem jyb(r0:Xc):jhX r0=jmf [V.row 0] [.row 1 r0]:=Eq.trans (jB9 (x:=jEZ) rfl) rfl
theorem jFF(r0:Xc):jsq r0=extRun K (MM K) (Go.Proofs.YthlhadhipnokfaaGreatDoor.Abs.sfE 3) [V.row 0,V.fn 276 []] [.row 3 r0]:=jB9 rfl
theorem jFG(r0:Xc):jsr r0=extRun K (MM K) (Go.Proofs.YthlhadhipnokfaaGreatDoor.Abs.sfE 3) [V.row 0,V.fn 154 []] [.row 3 r0]:=jB9 rfl
theorem jx9:jxB a b=jc 2 a λa=>jW (jb a 1) λc=>yp c (vi 1) λc=>Q0 22 [b,vi 0,c] λc=>jl c false λ_=>yD c 23 [jH a] λd=>km c (Jg .not d) λd=>zJ c (vb true) d (some (A.top,[vb false,A.sl 1 []])) ((jxC (jH a) b).bind λb=>yE 1 b 0 λb=>brn (KD b) (jmV (vi 0) (jb a 0) (jb a 1) b []) none):=vq Tryz.func15
theorem jDe:jmV a b c p q=e_0 a p c q b:=hq Tryz.func15
theorem joc:jd9 a b c p q=e_0 a q c p b:=hq Tryz.func15
theorem jEs:jpa a b=jc 2 a λa=>(jvS (jH a) b).bind λb=>yY b 0 λc=>yE 1 b 1 λb=>brn (qM c) (brn (KD b) (qw c (some (A.top,[vb false,A.sl 1 []])) (jmY (yB b) (vi 0) (jb a 0) (jb a 1) b [])) none) none:=vq Tryz.func16
theorem jDf:jmY a b c d p q=e_1 b a p d q c:=hq Tryz.func16
theorem jod:Q4 a b c d p q=e_1 b a q d p c:=hq Tryz.func16
theorem jHm:jxI a p=jhs a (vi 0) p:=vq Tryz.func33
theorem ju7:jhs a b p=KE b (yB p) λc=>jl c true λ_=>jT c b λd=>jl c true λe=>brn e (qZ (jv p) d λd=>kY c (ZK p d 0) λd=>e_2 c a d b p) (kY c (j9 (A.val undef)) λd=>e_2 c a d b p):=hq Tryz.func33
theorem jHo:jxK p=jB (yB p) (vi 2) (some (A.top,[A.sl 1 p])) (jht (vi 1) p):=vq Tryz.func35
theorem ju8:jht a p=jB a (yB p) (qZ (jv p) a λb=>kRP p b 0 λb=>yp a (vi 1) λc=>qZ (jv p) c λc=>kRP p c 0 λc=>yz b c (kB (zX p) (zj p 0) none λb=>kB 0 b (some a) λc=>jek a (nA (0+c)) (nA (kz b c)) (vi 1) p) (jq a (vi 1) λa=>jht a p)) (some (A.top,[A.sl 1 p])):=hq Tryz.func35
theorem ju9:jek a b c d p=jB d (nA (zq c)) (qZ (zq c) d λe=>kRP p ((zq b)+e) 0 λe=>yp d (vi 1) λf=>qZ (zq c) f λf=>kRP p ((zq b)+f) 0 λf=>zV e f (qZ (zq c) d λe=>kRP p ((zq b)+e) 0 λe=>qZ (jv p) a λf=>brn (jU e) (kRG p f λg=>jq a (vi 1) λa=>jq d (vi 1) λd=>jek a (nA (zq b)) (nA (zq c)) d (kX p f (jS g 0 [e]))) none) (jq d (vi 1) λd=>jek a (nA (zq b)) (nA (zq c)) d p)) (kB (zX p) (zj p 0) none λb=>kB 0 b (some a) λc=>kB (zX (yt p (0+c) (yH (kz b c) [vi 0]))) (zj (yt p (0+c) (yH (kz b c) [vi 0])) 0) (some a) λa=>some (A.top,[A.sl 1 (List.take (kz a 0) (yt p (0+c) (yH (kz b c) [vi 0])))])):=hq Tryz.func35
theorem g4:G 4 [a,b]=jc 2 a λa=>kF 6 [jH a,vi 1048576] λc=>jB c (vi 0) (jf (vb true)) ((jkC (jb a 0) (jb a 1)).bind λc=>yE 65 c 0 λd=>yE 68 c 1 λc=>(jxB (A.agg [A.sl 1 d,A.sl 4 c]) b).bind λc=>yY c 0 λd=>yE 1 c 1 λc=>brn (qM d) (brn (KD c) ((jkC (jb a 0) (jb a 1)).bind λe=>yE 65 e 0 λf=>yE 68 e 1 λe=>(jpa (A.agg [A.sl 1 f,A.sl 4 e]) b).bind λg=>yY g 0 λh=>yE 1 g 1 λg=>brn (qM h) (brn (KD g) (kfn true (G 10 [A.sl 1 g,A.sl 1 c]) λi=>YX i λi=>jP i h λj=>jP i d λk=>km i (jy .neq true j k) λj=>zJ i (vb true) j (jf (vb false)) ((jkC (jb a 0) (jb a 1)).bind λi=>yE 65 i 0 λj=>yE 68 i 1 λi=>kfn true (G 11 [A.agg [A.sl 1 f,A.sl 4 e],A.agg [A.sl 1 j,A.sl 4 i]]) λi=>qw i (jf (vb false)) ((jua (vi 1) f e).bind λe=>yY e 0 λf=>yE 65 e 1 λ_=>yE 68 e 2 λ_=>KE f (vi 0) λe=>jl e false λ_=>jl e false λ_=>km e ((G 10 [A.sl 1 g,A.sl 1 c]).bind (fin true)) λf=>km e (Jg .not f) λf=>jQ e (vb true) f λe=>jP e h λf=>jP e d λh=>km e (jy .neq true f h) λf=>zJ e (vb true) f (jf (vb false)) (brn (jBM g) ((jhW (vi 1) g).bind λe=>yY e 0 λf=>yE 65 e 1 λe=>kfn true (G 14 [A.sl 1 e,vi 1]) λg=>jB g (vi 0) (jf (vb false)) (zV g f (jf (vb false)) ((jkC (jb a 0) (jb a 1)).bind λa=>yE 65 a 0 λg=>yE 68 a 1 λa=>(jpa (A.agg [A.sl 1 g,A.sl 4 a]) b).bind λa=>e_4 a c d e f))) none)))) none) none) none) none):=gq Tryz.func4
theorem jLs:G 276 [a,b]=jc 3 a λa=>jc 3 b λb=>kF 223 [jb a 0,jb b 0] λa=>jf a:=gq Tryz.func276
theorem jHX:G 265 [a]=JQ a a λa=>jf a:=gq Tryz.func265
theorem jKR:G 223 [a,b]=kF 265 [a] λc=>kF 265 [b] λd=>e_5 c d a b:=gq Tryz.func223
theorem g10:G 10 [a,b]=jW a λc=>jW b λd=>zV c d (jf (vb false)) (jug a b (vi 0)):=gq Tryz.func10
theorem jEx:jug a b c=JP c a (JO 1 a c λd=>JO 1 b c λe=>zV d e (jf (vb false)) (jq c (vi 1) λc=>jug a b c)) (jf (vb true)):=hq Tryz.func10
theorem g11:G 11 [a,b]=jc 2 a λa=>jc 2 b λb=>kF 29 [jb a 0,jb b 0] λc=>qw c (jf (vb false)) (kF 30 [jb a 1,jb b 1] λa=>qw a (jf (vb false)) (jf (vb true))):=gq Tryz.func11
theorem jJz:G 111 [a,b]=jc 2 a λa=>kLS (jb a 0) λc=>yp b c λb=>jB b (vi 0) (jf (vi (- 1))) (kF 139 [jb a 1,b] λa=>jB a (vi 0) (jf (vi (- 1))) (jf a)):=gq Tryz.func111
theorem jFo:jsk a b=brn (jU a) (brn (jU b) (brn (jU a) ((jdn b).bind λb=>yE 66 b 0 λb=>brn (jU a) (some (A.top,[a,A.sl 66 b])) none) none) none) none:=vq Tryz.func122
theorem jFp:jmL a=jc 2 a λa=>brn (jU (jb a 0)) ((jdn (jb a 1)).bind λb=>yE 66 b 0 λb=>brn (jU (jb a 0)) (some (A.top,[jb a 0,A.sl 66 b])) none) none:=vq Tryz.func122
theorem jJE:G 123 [a,b]=jc 2 a λa=>jc 2 b λb=>zV (jb a 0) (jb b 0) (jf (vb false)) (kF 152 [jb a 1,jb b 1] λa=>qw a (jf (vb false)) (jf (vb true))):=gq Tryz.func123
theorem jHf:jua a p q=(jxG a p).bind λa=>yY a 0 λb=>yE 65 a 1 λa=>(jxH b q).bind λb=>yY b 0 λc=>yE 68 b 1 λb=>some (A.top,[c,A.sl 65 a,A.sl 68 b]):=vq Tryz.func12
theorem jJN:G 139 [a,b]=jW a λc=>yp b c λb=>jB b (vi 0) (jf (vi (- 1))) (jh4 a b (vi 0)):=gq Tryz.func139
theorem jzg:jh4 a b c=JP c a (ye 2 2 a c λd=>kF 111 [d,b] λb=>jB b (vi 0) (jf (vi (- 1))) (jq c (vi 1) λc=>jh4 a b c)) (jf b):=hq Tryz.func139
theorem jEr:jhW a p=jd5 a (vi 0) p:=vq Tryz.func13
theorem jhJ:jd5 a b p=jB b (yB p) (qZ (jv p) b λc=>brn (jU a) (brn (y9 a) (kRG p c λd=>brn (jaU d 0 1) (jq a (vi 1) λe=>jq b (vi 1) λb=>jd5 e b (kX p c (jS d 0 [a]))) none) none) none) (some (A.top,[a,A.sl 65 p])):=hq Tryz.func13
theorem g14:G 14 [a,b]=juh a b (vi 0):=gq Tryz.func14
theorem jEy:juh a b c=JP c a (JO 1 a c λd=>zV d b (jf (vi (- 1))) (jq b (vi 1) λb=>jq c (vi 1) λc=>juh a b c)) (jf b):=hq Tryz.func14
theorem jFs:jdn a=jW a λb=>kMk 40 b b λb=>jd8 a (vi 0) (yH b [sv [],A.sl 2 []]):=vq Tryz.func151
theorem jqk:jd8 a b p=JP b a (ye 2 2 a b λc=>(jmL c).bind λc=>yY c 0 λd=>yE 66 c 1 λc=>qZ (jv p) b λe=>brn (jU d) (brn (y9 d) (kRG p e λf=>jq b (vi 1) λb=>jd8 a b (kX p e (jS f 0 [d,A.sl 2 c]))) none) none) (some (A.top,[A.sl 66 p])):=hq Tryz.func151
theorem jJW:G 152 [a,b]=jW a λc=>jW b λd=>zV c d (jf (vb false)) (jmU a b (vi 0)):=gq Tryz.func152
theorem jzl:jmU a b c=JP c a (ye 2 2 a c λd=>ye 2 2 b c λe=>kF 123 [d,e] λd=>qw d (jf (vb false)) (jq c (vi 1) λc=>jmU a b c)) (jf (vb true)):=hq Tryz.func152
theorem g20:G 20 [a,b]=jW a λc=>yp b c λb=>jB b (vi 0) (jf (vi (- 1))) (jpc a b (vi 0)):=gq Tryz.func20
theorem jEz:jpc a b c=JP c a (ye 1 1 a c λd=>kF 41 [d,b] λb=>jB b (vi 0) (jf (vi (- 1))) (jq c (vi 1) λc=>jpc a b c)) (jf b):=hq Tryz.func20
theorem g21:G 21 [a,b]=jW a λc=>yp b c λb=>jB b (vi 0) (jf (vi (- 1))) (jpd a b (vi 0)):=gq Tryz.func21
theorem jEA:jpd a b c=JP c a (ye 4 4 a c λd=>kF 42 [d,b] λb=>jB b (vi 0) (jf (vi (- 1))) (jq c (vi 1) λc=>jpd a b c)) (jf b):=hq Tryz.func21
theorem g22:G 22 [a,b,c]=e_6 a b c:=gq Tryz.func22
theorem jHg:jxC a b=jc 2 a λa=>jq b (vi 1) λc=>kMk 1 c c λc=>qZ (jv (yH c [vb false])) b λd=>kRG (yH c [vb false]) d λe=>jee b b (jb a 0) (jb a 1) (kX (yH c [vb false]) d (jS e 0 [vb true])):=vq Tryz.func24
theorem juY:jee a b c d p=jf2 b (vi 0) (jhm a b (vi 0) c d p) (Q7 a (vi 0) p []):=hq Tryz.func24
theorem juZ:jhm a b c d e p=YW 4 e b 1 λf=>jW f λf=>KE c f λf=>jl f true λ_=>jT f b λg=>jl f true λh=>brn h (qZ (jv p) g λg=>kY f (ZK p g 0) λg=>e_7 f g e b c p a d) (kY f (j9 (A.val undef)) λg=>e_7 f g e b c p a d):=hq Tryz.func24
theorem ju0:Q7 a b p q=jn9 b a (qZ (jv p) b λc=>kRP p c 0 λc=>Jf c (brn (jU b) (brn (jM ((jv q)+(jv [[b]])) 8) (jq b (vi 1) λc=>Q7 a c p (jR q [[b]])) none) none) (jq b (vi 1) λb=>Q7 a b p q)) (some (A.top,[A.sl 1 q])):=hq Tryz.func24
theorem jHh:jxD a=jW a λb=>kMk 24 b b λb=>jhn a (vi 0) (yH b [A.sl 3 []]):=vq Tryz.func25
theorem ju1:jhn a b p=JP b a (ye 1 1 a b λc=>(jxL c).bind λc=>yE 67 c 0 λc=>qZ (jv p) b λd=>kRG p d λe=>jq b (vi 1) λb=>jhn a b (kX p d (jS e 0 [A.sl 3 c]))) (some (A.top,[A.sl 65 p])):=hq Tryz.func25
theorem jHi:jxE a=jW a λb=>kMk 80 b b λb=>jho a (vi 0) (yH b [vi 0,A.sl 1 [],A.sl 1 [],A.sl 3 []]):=vq Tryz.func26
theorem ju2:jho a b p=JP b a (ye 4 4 a b λc=>(jxN c).bind λc=>yY c 0 λd=>yE 65 c 1 λe=>yE 65 c 2 λf=>yE 67 c 3 λc=>qZ (jv p) b λg=>brn (jU d) (brn (y9 d) (kRG p g λh=>jq b (vi 1) λb=>jho a b (kX p g (jS h 0 [d,A.sl 1 e,A.sl 1 f,A.sl 3 c]))) none) none) (some (A.top,[A.sl 68 p])):=hq Tryz.func26
theorem jHj:jxF a b=jc 2 a λa=>jW (jb a 1) λc=>kMk 1 c c λc=>qZ (jv (yH c [vb false])) b λd=>kRG (yH c [vb false]) d λe=>jcq b (jb a 0) (jb a 1) (kX (yH c [vb false]) d (jS e 0 [vb true])) []:=vq Tryz.func28
theorem ju3:jcq a b c p q=jf2 a (vi 0) (qZ (jv p) a λd=>kRP p d 0 λd=>qw d (yp a (vi 1) λa=>jcq a b c p q) (brn (jU a) (brn (jM ((jv q)+(jv [[a]])) 8) (YW 4 c a 1 λd=>jW d λe=>jhp a d e (vi 0) b c p (jR q [[a]])) none) none)) ((jxO q).bind λa=>yE 1 a 0 λa=>some (A.top,[A.sl 1 a])):=hq Tryz.func28
theorem ju4:jhp a b c d e f p q=jB d c (JO 1 b d λg=>qZ (jv p) g λg=>kRG p g λh=>jq d (vi 1) λd=>jhp a b c d e f (kX p g (jS h 0 [vb true])) q) (yp a (vi 1) λa=>jcq a e f p q):=hq Tryz.func28
theorem g29:G 29 [a,b]=jW a λc=>jW b λd=>zV c d (jf (vb false)) (jui a b (vi 0)):=gq Tryz.func29
theorem jEB:jui a b c=JP c a (ye 1 1 a c λd=>ye 1 1 b c λe=>kF 49 [d,e] λd=>qw d (jf (vb false)) (jq c (vi 1) λc=>jui a b c)) (jf (vb true)):=hq Tryz.func29
theorem g3:G 3 [a,b]=jc 2 a λa=>kF 6 [jH a,vi 1048576] λc=>jB c (vi 0) (jf (vb true)) ((jkC (jb a 0) (jb a 1)).bind λc=>yE 65 c 0 λd=>yE 68 c 1 λc=>(jI6 (A.agg [A.sl 1 d,A.sl 4 c]) b).bind λc=>yY c 0 λd=>yE 1 c 1 λc=>brn (qM d) (brn (KD c) ((jkC (jb a 0) (jb a 1)).bind λe=>yE 65 e 0 λf=>yE 68 e 1 λe=>(jvS (A.agg [A.sl 1 f,A.sl 4 e]) b).bind λg=>yY g 0 λh=>yE 1 g 1 λg=>brn (qM h) (brn (KD g) (kfn true (G 10 [A.sl 1 g,A.sl 1 c]) λi=>YX i λi=>jP i h λj=>jP i d λk=>km i (jy .neq true j k) λj=>zJ i (vb true) j (jf (vb false)) ((jkC (jb a 0) (jb a 1)).bind λi=>yE 65 i 0 λj=>yE 68 i 1 λi=>kfn true (G 11 [A.agg [A.sl 1 f,A.sl 4 e],A.agg [A.sl 1 j,A.sl 4 i]]) λi=>qw i (jf (vb false)) ((jua (vi 1) f e).bind λe=>yY e 0 λf=>yE 65 e 1 λ_=>yE 68 e 2 λ_=>KE f (vi 0) λe=>jl e false λ_=>jl e false λ_=>km e ((G 10 [A.sl 1 g,A.sl 1 c]).bind (fin true)) λf=>km e (Jg .not f) λf=>jQ e (vb true) f λe=>jP e h λf=>jP e d λh=>km e (jy .neq true f h) λf=>zJ e (vb true) f (jf (vb false)) (brn (jBM g) ((jhW (vi 1) g).bind λe=>yY e 0 λf=>yE 65 e 1 λe=>kfn true (G 14 [A.sl 1 e,vi 1]) λg=>jB g (vi 0) (jf (vb false)) (zV g f (jf (vb false)) ((jkC (jb a 0) (jb a 1)).bind λa=>yE 65 a 0 λg=>yE 68 a 1 λa=>(jvS (A.agg [A.sl 1 g,A.sl 4 a]) b).bind λa=>e_4 a c d e f))) none)))) none) none) none) none):=gq Tryz.func3
theorem g30:G 30 [a,b]=jW a λc=>jW b λd=>zV c d (jf (vb false)) (juj a b (vi 0)):=gq Tryz.func30
theorem jEC:juj a b c=JP c a (ye 4 4 a c λd=>ye 4 4 b c λe=>kF 50 [d,e] λd=>qw d (jf (vb false)) (jq c (vi 1) λc=>juj a b c)) (jf (vb true)):=hq Tryz.func30
theorem jHk:jxG a p=jhq a (vi 0) p:=vq Tryz.func31
theorem ju5:jhq a b p=jB b (yB p) (qZ (jv p) b λc=>kRG p c λd=>brn (jc9 (jb d 0)) (kRG p c λd=>kRs 3 (jb d 0) λe=>(jub a e).bind λa=>yY a 0 λe=>yE 67 a 1 λa=>jq b (vi 1) λb=>jhq e b (kX p c (jS d 0 [A.sl 3 a]))) none) (some (A.top,[a,A.sl 65 p])):=hq Tryz.func31
theorem jHl:jxH a p=jhr a (vi 0) p:=vq Tryz.func32
theorem ju6:jhr a b p=jB b (yB p) (qZ (jv p) b λc=>brn (jU a) (brn (y9 a) (kRG p c λd=>brn (jaU d 0 1) (jq a (vi 1) λe=>qZ (jv (kX p c (jS d 0 [a]))) b λf=>kRG (kX p c (jS d 0 [a])) f λg=>brn (jc9 (jb g 1)) (kRG (kX p c (jS d 0 [a])) f λg=>kRs 1 (jb g 1) λh=>(jhW e h).bind λe=>yY e 0 λh=>yE 65 e 1 λe=>qZ (jv (kX (kX p c (jS d 0 [a])) f (jS g 1 [A.sl 1 e]))) b λi=>kRG (kX (kX p c (jS d 0 [a])) f (jS g 1 [A.sl 1 e])) i λj=>brn (jc9 (jb j 2)) (kRG (kX (kX p c (jS d 0 [a])) f (jS g 1 [A.sl 1 e])) i λj=>kRs 1 (jb j 2) λk=>(jhW h k).bind λh=>yY h 0 λk=>yE 65 h 1 λh=>qZ (jv (kX (kX (kX p c (jS d 0 [a])) f (jS g 1 [A.sl 1 e])) i (jS j 2 [A.sl 1 h]))) b λl=>kRG (kX (kX (kX p c (jS d 0 [a])) f (jS g 1 [A.sl 1 e])) i (jS j 2 [A.sl 1 h])) l λm=>brn (jc9 (jb m 3)) (kRG (kX (kX (kX p c (jS d 0 [a])) f (jS g 1 [A.sl 1 e])) i (jS j 2 [A.sl 1 h])) l λm=>kRs 3 (jb m 3) λn=>(jub k n).bind λk=>yY k 0 λn=>yE 67 k 1 λk=>jq b (vi 1) λb=>jhr n b (kX (kX (kX (kX p c (jS d 0 [a])) f (jS g 1 [A.sl 1 e])) i (jS j 2 [A.sl 1 h])) l (jS m 3 [A.sl 3 k]))) none) none) none) none) none) none) (some (A.top,[a,A.sl 68 p])):=hq Tryz.func32
theorem g41:G 41 [a,b]=jc 1 a λa=>kF 63 [jb a 0,b] λa=>jB a (vi 0) (jf (vi (- 1))) (jf a):=gq Tryz.func41
theorem g42:G 42 [a,b]=jc 4 a λa=>kF 64 [jb a 1,b] λb=>jB b (vi 0) (jf (vi (- 1))) (kF 64 [jb a 2,b] λb=>jB b (vi 0) (jf (vi (- 1))) (kF 41 [A.agg [jb a 3],b] λa=>jB a (vi 0) (jf (vi (- 1))) (jf a))):=gq Tryz.func42
theorem jHp:jxL a=jc 1 a λa=>(juc (jb a 0)).bind λa=>yE 67 a 0 λa=>some (A.top,[A.sl 67 a]):=vq Tryz.func45
theorem jHq:jxM a=brn (jU a) ((juc a).bind λa=>yE 67 a 0 λa=>some (A.top,[A.sl 67 a])) none:=vq Tryz.func45
theorem jHr:jxN a=jc 4 a λa=>brn (jU (jb a 0)) ((jud (jb a 1)).bind λb=>yE 65 b 0 λb=>(jud (jb a 2)).bind λc=>yE 65 c 0 λc=>(jxM (jb a 3)).bind λd=>yE 67 d 0 λd=>brn (jU (jb a 0)) (some (A.top,[jb a 0,A.sl 65 b,A.sl 65 c,A.sl 67 d])) none) none:=vq Tryz.func46
theorem jHs:jxO p=yp (yB p) (vi 1) λa=>jhu (vi 0) a p:=vq Tryz.func48
theorem jDg:jhu a b p=jB a b (qZ (jv p) b λc=>kRP p c 0 λc=>qZ (jv p) a λd=>kRP p d 0 λd=>qZ (jv p) a λe=>brn (jU c) (kRG p e λf=>qZ (jv (kX p e (jS f 0 [c]))) b λg=>brn (jU d) (kRG (kX p e (jS f 0 [c])) g λh=>jq a (vi 1) λa=>yp b (vi 1) λb=>jhu a b (kX (kX p e (jS f 0 [c])) g (jS h 0 [d]))) none) none) (some (A.top,[A.sl 1 p])):=hq Tryz.func48
theorem g49:G 49 [a,b]=jc 1 a λa=>jc 1 b λb=>kF 69 [jb a 0,jb b 0] λa=>qw a (jf (vb false)) (jf (vb true)):=gq Tryz.func49
theorem g50:G 50 [a,b]=jc 4 a λa=>jc 4 b λb=>zV (jb a 0) (jb b 0) (jf (vb false)) (kF 10 [jb a 1,jb b 1] λc=>qw c (jf (vb false)) (kF 10 [jb a 2,jb b 2] λc=>qw c (jf (vb false)) (kF 49 [A.agg [jb a 3],A.agg [jb b 3]] λa=>qw a (jf (vb false)) (jf (vb true))))):=gq Tryz.func50
theorem jHt:jub a p=jhv a (vi 0) p:=vq Tryz.func51
theorem jva:jhv a b p=jB b (yB p) ((jy .rem false a (vi 3)).bind λc=>zU c (vi 0) λc=>qZ (jv p) b λd=>brn (jU c) (brn (y9 c) (kRG p d λe=>brn (jaU e 0 1) (jq a (vi 1) λa=>kF 70 [a] λf=>qZ (jv (kX p d (jS e 0 [c]))) b λg=>brn (jU f) (brn (y9 f) (kRG (kX p d (jS e 0 [c])) g λh=>brn (jaU h 1 1) (jq a (vi 1) λa=>qZ (jv (kX (kX p d (jS e 0 [c])) g (jS h 1 [f]))) b λi=>kRG (kX (kX p d (jS e 0 [c])) g (jS h 1 [f])) i λj=>brn (jc9 (jb j 2)) (kRG (kX (kX p d (jS e 0 [c])) g (jS h 1 [f])) i λj=>kRs 2 (jb j 2) λk=>(jk3 a k).bind λa=>yY a 0 λk=>yE 66 a 1 λa=>jq b (vi 1) λb=>jhv k b (kX (kX (kX p d (jS e 0 [c])) g (jS h 1 [f])) i (jS j 2 [A.sl 2 a]))) none) none) none) none) none) none) none) (some (A.top,[a,A.sl 67 p])):=hq Tryz.func51
theorem g6:G 6 [a,b]=jc 2 a λa=>kF 20 [jb a 0,b] λb=>jB b (vi 0) (jf (vi (- 1))) (kF 21 [jb a 1,b] λa=>jB a (vi 0) (jf (vi (- 1))) (jf a)):=gq Tryz.func6
theorem g63:G 63 [a,b]=jW a λc=>yp b c λb=>jB b (vi 0) (jf (vi (- 1))) (jpe a b (vi 0)):=gq Tryz.func63
theorem jEG:jpe a b c=JP c a (ye 3 3 a c λd=>kF 90 [d,b] λb=>jB b (vi 0) (jf (vi (- 1))) (jq c (vi 1) λc=>jpe a b c)) (jf b):=hq Tryz.func63
theorem g64:G 64 [a,b]=jW a λa=>yp b a λa=>jB a (vi 0) (jf (vi (- 1))) (jf a):=gq Tryz.func64
theorem jHu:juc a=jW a λb=>kMk 48 b b λb=>jhw a (vi 0) (yH b [vb false,sv [],A.sl 2 []]):=vq Tryz.func67
theorem jvc:jhw a b p=JP b a (ye 3 3 a b λc=>(jxP c).bind λc=>yY c 0 λd=>yY c 1 λe=>yE 66 c 2 λc=>qZ (jv p) b λf=>brn (jU d) (brn (jU e) (brn (y9 d) (brn (y9 e) (kRG p f λg=>jq b (vi 1) λb=>jhw a b (kX p f (jS g 0 [d,e,A.sl 2 c]))) none) none) none) none) (some (A.top,[A.sl 67 p])):=hq Tryz.func67
theorem jHv:jud a=jW a λb=>kMk 8 b b λb=>jhx a (vi 0) (yH b [vi 0]):=vq Tryz.func68
theorem jvd:jhx a b p=JP b a (JO 1 a b λc=>qZ (jv p) b λd=>brn (jU c) (brn (y9 c) (kRG p d λe=>jq b (vi 1) λb=>jhx a b (kX p d (jS e 0 [c]))) none) none) (some (A.top,[A.sl 65 p])):=hq Tryz.func68
theorem g69:G 69 [a,b]=jW a λc=>jW b λd=>zV c d (jf (vb false)) (jun a b (vi 0)):=gq Tryz.func69
theorem jEH:jun a b c=JP c a (ye 3 3 a c λd=>ye 3 3 b c λe=>kF 96 [d,e] λd=>qw d (jf (vb false)) (jq c (vi 1) λc=>jun a b c)) (jf (vb true)):=hq Tryz.func69
theorem g70:G 70 [a]=jn9 a (vi 0) (jf (sv [109,48])) (juo a (sv [])):=gq Tryz.func70
theorem jEI:juo a b=qk a (vi 0) ((jy .rem false a (vi 10)).bind λc=>jq (vi 48) c λc=>(qB .u8 c).bind λc=>brn (jU c) ((jdP (A.sl 1 [[c]])).bind λc=>jq c b λb=>juX a (vi 10) λa=>juo a b) none) (jq (sv [109]) b λa=>jf a):=hq Tryz.func70
theorem jHw:jk3 a p=jhy a (vi 0) p:=vq Tryz.func71
theorem jve:jhy a b p=jB b (yB p) (kF 70 [a] λc=>qZ (jv p) b λd=>brn (jU c) (brn (y9 c) (kRG p d λe=>brn (jaU e 0 1) (jq a (vi 1) λa=>qZ (jv (kX p d (jS e 0 [c]))) b λf=>kRG (kX p d (jS e 0 [c])) f λg=>brn (jc9 (jb g 1)) (kRG (kX p d (jS e 0 [c])) f λg=>kRs 2 (jb g 1) λh=>(jk3 a h).bind λa=>yY a 0 λh=>yE 66 a 1 λa=>jq b (vi 1) λb=>jhy h b (kX (kX p d (jS e 0 [c])) f (jS g 1 [A.sl 2 a]))) none) none) none) none) (some (A.top,[a,A.sl 66 p])):=hq Tryz.func71
theorem jJn:jkC a b=brn (jU a) (brn (jU b) ((jxD a).bind λa=>yE 65 a 0 λa=>(jxE b).bind λb=>yE 68 b 0 λb=>some (A.top,[A.sl 65 a,A.sl 68 b])) none) none:=vq Tryz.func8
theorem g90:G 90 [a,b]=jc 3 a λa=>kF 111 [A.agg [jb a 1,jb a 2],b] λa=>jB a (vi 0) (jf (vi (- 1))) (jf a):=gq Tryz.func90
theorem jHz:jxP a=jc 3 a λa=>brn (jU (jb a 0)) ((jsk (jb a 1) (jb a 2)).bind λb=>yY b 0 λc=>yE 66 b 1 λb=>brn (jU c) (brn (jU (jb a 0)) (brn (jU c) (some (A.top,[jb a 0,c,A.sl 66 b])) none) none) none) none:=vq Tryz.func95
theorem g96:G 96 [a,b]=jc 3 a λa=>jc 3 b λb=>(jy .neq true (jb a 0) (jb b 0)).bind λc=>Jf c (jf (vb false)) (kF 123 [A.agg [jb a 1,jb a 2],A.agg [jb b 1,jb b 2]] λa=>qw a (jf (vb false)) (jf (vb true))):=gq Tryz.func96
theorem jHA:jvS a b=jc 2 a λa=>kF 27 [jH a,b] λc=>qw c (some (A.top,[vb false,A.sl 1 []])) ((jxF (jH a) b).bind λa=>yE 1 a 0 λa=>brn (KD a) (some (A.top,[vb true,A.sl 1 a])) none):=vq Tryz.func9
theorem jHI:G 102 [a]=JQ a a λa=>jf a:=gq Tryz.func102
theorem jJs:G 103 [a,b]=kF 125 [a,b] λa=>jaR a (vi 0) λa=>jf a:=gq Tryz.func103
theorem jJt:G 104 [a]=jc 1 a λa=>Q0 105 [jX a] λa=>jf a:=gq Tryz.func104
theorem jJu:G 105 [a]=jc 1 a λa=>kF 126 [jX a] λb=>jl b true λ_=>ya b 127 [jX a] λa=>jQ b a (vb false) λa=>jf a:=gq Tryz.func105
theorem jJv:G 106 [a,b]=kF 128 [a,b] λa=>jaR a (vi 0) λa=>jf a:=gq Tryz.func106
theorem jJw:G 107 [a,b]=kLP b λb=>yp b (vi 1) λb=>Q0 47 [a,vi 0,b] λa=>jf a:=gq Tryz.func107
theorem Zy:G 108 [a,b]=jc 2 a λa=>jc 4 b λb=>jW (jb b 1) λc=>jW (jb b 2) λd=>zU (jb b 0) (vi 1) λe=>jT e c λf=>kY e (jy .eql false f (vi 0)) λf=>jQ e f (vb false) λe=>jT e d λf=>kY e (jy .eql false f (vi 1)) λf=>zJ e f (vb false) (JO 1 (jb b 2) (vi 0) λc=>jW (jb a 0) λd=>yp d (vi 1) λd=>kF 47 [c,vi 0,d] λc=>Jf c (e_8 b a) (jf (A.tup [A.agg [A.sl 3 []],vb false]))) (zU (jb b 0) (vi 2) λe=>jT e c λf=>kY e (jy .eql false f (vi 2)) λf=>jQ e f (vb false) λe=>jT e d λf=>kY e (jy .eql false f (vi 2)) λf=>zJ e f (vb false) ((Ql (vi 0) (jb a 0) (jb a 1) (jb b 0) (jb b 1) (jb b 2) (jb b 3)).bind λc=>yY c 0 λd=>yY c 1 λe=>yY c 2 λf=>yY c 3 λg=>yY c 4 λh=>yY c 5 λi=>yY c 6 λc=>brn (Zx (jb a 0) d) (brn (Zx (jb a 1) e) (brn (Zx (jb b 0) f) (brn (Zx (jb b 1) g) (brn (Zx (jb b 2) h) (brn (Zx (jb b 3) i) (JO 1 (jb b 2) (vi 0) λd=>(Ql (vi 1) (jb a 0) (jb a 1) (jb b 0) (jb b 1) (jb b 2) (jb b 3)).bind λe=>yY e 0 λf=>yY e 1 λg=>yY e 2 λh=>yY e 3 λi=>yY e 4 λj=>yY e 5 λk=>yY e 6 λe=>brn (Zx (jb a 0) f) (brn (Zx (jb a 1) g) (brn (Zx (jb b 0) h) (brn (Zx (jb b 1) i) (brn (Zx (jb b 2) j) (brn (Zx (jb b 3) k) (JO 1 (jb b 2) (vi 1) λa=>YV 130 [A.agg [c],d,A.agg [e],a] λa b=>jc 1 a λa=>jf (A.tup [jX a,b])) none) none) none) none) none) none) none) none) none) none) none) none) (zU (jb b 0) (vi 3) λe=>jT e c λf=>kY e (jy .eql false f (vi 1)) λf=>jQ e f (vb false) λe=>jT e d λf=>kY e (jy .eql false f (vi 2)) λf=>zJ e f (vb false) ((Ql (vi 0) (jb a 0) (jb a 1) (jb b 0) (jb b 1) (jb b 2) (jb b 3)).bind λc=>yY c 0 λd=>yY c 1 λe=>yY c 2 λf=>yY c 3 λg=>yY c 4 λh=>yY c 5 λi=>yY c 6 λc=>brn (Zx (jb a 0) d) (brn (Zx (jb a 1) e) (brn (Zx (jb b 0) f) (brn (Zx (jb b 1) g) (brn (Zx (jb b 2) h) (brn (Zx (jb b 3) i) (JO 1 (jb b 2) (vi 0) λa=>JO 1 (jb b 2) (vi 1) λb=>YV 131 [A.agg [c],a,b] λa b=>jc 1 a λa=>jf (A.tup [jX a,b])) none) none) none) none) none) none) (zU (jb b 0) (vi 4) λe=>jT e c λf=>kY e (jy .eql false f (vi 2)) λf=>jQ e f (vb false) λe=>jT e d λf=>kY e (jy .geq false f (vi 3)) λf=>zJ e f (vb false) ((Ql (vi 0) (jb a 0) (jb a 1) (jb b 0) (jb b 1) (jb b 2) (jb b 3)).bind λc=>yY c 0 λd=>yY c 1 λe=>yY c 2 λf=>yY c 3 λg=>yY c 4 λh=>yY c 5 λi=>yY c 6 λc=>brn (Zx (jb a 0) d) (brn (Zx (jb a 1) e) (brn (Zx (jb b 0) f) (brn (Zx (jb b 1) g) (brn (Zx (jb b 2) h) (brn (Zx (jb b 3) i) (JO 1 (jb b 2) (vi 0) λd=>JO 1 (jb b 2) (vi 1) λe=>(Ql (vi 1) (jb a 0) (jb a 1) (jb b 0) (jb b 1) (jb b 2) (jb b 3)).bind λf=>yY f 0 λg=>yY f 1 λh=>yY f 2 λi=>yY f 3 λj=>yY f 4 λk=>yY f 5 λl=>yY f 6 λf=>brn (Zx (jb a 0) g) (brn (Zx (jb a 1) h) (brn (Zx (jb b 0) i) (brn (Zx (jb b 1) j) (brn (Zx (jb b 2) k) (brn (Zx (jb b 3) l) (JO 1 (jb b 2) (vi 2) λa=>kSl 1 (jb b 2) (some (vi 3)) none λb=>YV 132 [A.agg [c],d,e,A.agg [f],a,b] λa b=>jc 1 a λa=>jf (A.tup [jX a,b])) none) none) none) none) none) none) none) none) none) none) none) none) (zU (jb b 0) (vi 5) λe=>jT e c λf=>kY e (jy .eql false f (vi 1)) λf=>jQ e f (vb false) λe=>jT e d λf=>kY e (jy .eql false f (vi 1)) λf=>zJ e f (vb false) ((Ql (vi 0) (jb a 0) (jb a 1) (jb b 0) (jb b 1) (jb b 2) (jb b 3)).bind λc=>yY c 0 λd=>yY c 1 λe=>yY c 2 λf=>yY c 3 λg=>yY c 4 λh=>yY c 5 λi=>yY c 6 λc=>brn (Zx (jb a 0) d) (brn (Zx (jb a 1) e) (brn (Zx (jb b 0) f) (brn (Zx (jb b 1) g) (brn (Zx (jb b 2) h) (brn (Zx (jb b 3) i) (JO 1 (jb b 2) (vi 0) λa=>YV 133 [A.agg [c],a] λa b=>jc 1 a λa=>jf (A.tup [jX a,b])) none) none) none) none) none) none) (zU (jb b 0) (vi 6) λe=>jT e c λc=>ya e 47 [c,vi 2,vi 11] λc=>jQ e c (vb false) λc=>jT c d λd=>kY c (jy .eql false d (vi 0)) λd=>zJ c d (vb false) (kSl 1 (jb b 1) (some (vi 1)) none λc=>YV 134 [jH a,c] λc d=>qw d (jf (A.tup [A.agg [A.sl 3 []],vb false])) ((Ql (vi 0) (jb a 0) (jb a 1) (jb b 0) (jb b 1) (jb b 2) (jb b 3)).bind λd=>yY d 0 λe=>yY d 1 λf=>yY d 2 λg=>yY d 3 λh=>yY d 4 λi=>yY d 5 λj=>yY d 6 λd=>brn (Zx (jb a 0) e) (brn (Zx (jb a 1) f) (brn (Zx (jb b 0) g) (brn (Zx (jb b 1) h) (brn (Zx (jb b 2) i) (brn (Zx (jb b 3) j) (YV 135 [A.agg [d],c] λc d=>jc 1 c λc=>jl d true λ_=>jl d true λ_=>jl d true λe=>brn e ((Ql (vi 0) (jb a 0) (jb a 1) (jb b 0) (jb b 1) (jb b 2) (jb b 3)).bind λe=>yY e 0 λf=>yY e 1 λg=>yY e 2 λh=>yY e 3 λi=>yY e 4 λj=>yY e 5 λk=>yY e 6 λe=>brn (Zx (jb a 0) f) (brn (Zx (jb a 1) g) (brn (Zx (jb b 0) h) (brn (Zx (jb b 1) i) (brn (Zx (jb b 2) j) (brn (Zx (jb b 3) k) (ya d 109 [jX c,A.agg [e]] λa=>e_9 d a c) none) none) none) none) none) none) (ya d 109 [jX c,A.val undef] λa=>e_9 d a c)) none) none) none) none) none) none)) (jf (A.tup [A.agg [A.sl 3 []],vb false]))))))):=gq Tryz.func108
theorem jJx:G 109 [a,b]=jc 1 a λa=>jc 1 b λb=>kF 136 [jb a 0,jb b 0,A.fn 137 []] λa=>jf a:=gq Tryz.func109
theorem jJy:G 110 [a]=jc 3 a λa=>kF 138 [A.agg [jb a 1,jb a 2]] λb=>(zH (zF (K.at 110) 95) [vb false,sv [],A.sl 2 []] [(0,jb a 0),(1,b)]).bind λa=>jc 3 a λa=>jf (Yq a):=gq Tryz.func110
theorem jFW:G 112 [a]=jc 2 a λa=>yz (jb a 0) (sv [61]) (jW (jb a 1) λb=>zU b (vi 2) λb=>jl b true λ_=>ya b 140 [jH a] λc=>jQ b c (vb false) λb=>jl b true λ_=>jT b (jb a 1) λc=>kY b (jk 2 c (vi 0)) λc=>kY b (kC 2 c) λc=>ya b 141 [c] λc=>jQ b c (vb false) λb=>jl b true λ_=>jT b (jb a 1) λa=>kY b (jk 2 a (vi 1)) λa=>kY b (kC 2 a) λa=>ya b 141 [a] λa=>jQ b a (vb false) λa=>jf a) (kF 142 [jb a 0] λb=>jl b true λ_=>ya b 143 [jH a] λa=>jQ b a (vb false) λa=>jf a):=gq Tryz.func112
theorem jJA:G 113 [a,b]=jc 3 a λa=>jc 3 b λb=>kF 144 [A.agg [jb a 1,jb a 2],A.agg [jb b 1,jb b 2]] λc=>zV c (vi 0) (jf c) (YX (jb a 0) λc=>jl c true λ_=>jT c (jb b 0) λd=>zJ c d (vb false) (jf (vi (- 1))) (jl (jb a 0) true λ_=>jT (jb a 0) (jb b 0) λb=>kY (jb a 0) (Jg .not b) λb=>zJ (jb a 0) b (vb false) (jf (vi 1)) (jf (vi 0)))):=gq Tryz.func113
theorem jJB:G 114 [a]=jc 1 a λa=>jh1 (vi 0) (jb a 0) []:=gq Tryz.func114
theorem jy7:jh1 a b p=JP a b (Je 2 3 b a 1 λc=>(jmM c p).bind λc=>yE 1 c 0 λc=>jq a (vi 1) λa=>jh1 a b c) (jf (A.sl 1 p)):=hq Tryz.func114
theorem jJC:G 115 [a]=jB a (vi 0) ((Jg .neg a).bind λa=>kF 115 [a] λa=>jq (sv [45]) a λa=>jf a) (jB a (vi 10) (jq a (vi 1) λb=>(Z1 (sv [48,49,50,51,52,53,54,55,56,57]) (some a) (some b)).bind λa=>jf a) (juX a (vi 10) λb=>kF 115 [b] λb=>(jy .rem false a (vi 10)).bind λc=>(jy .rem false a (vi 10)).bind λa=>jq a (vi 1) λa=>(Z1 (sv [48,49,50,51,52,53,54,55,56,57]) (some c) (some a)).bind λa=>jq b a λa=>jf a)):=gq Tryz.func115
theorem jFX:G 116 [a,b,c,d]=jc 1 a λa=>jc 1 c λc=>Q0 65 [jX a] λe=>jl e false λ_=>yD e 65 [jX c] λf=>km e (Jg .not f) λf=>zJ e (vb true) f (jf (A.tup [A.agg [A.sl 3 []],vb false])) (YV 146 [jX a,b,jX c,d] λa b=>jc 1 a λa=>jf (A.tup [jX a,b])):=gq Tryz.func116
theorem jHJ:G 117 [a,b,c]=jc 1 a λa=>kF 65 [jX a] λd=>qw d (jf (A.tup [A.agg [A.sl 3 []],vb false])) (YV 147 [jX a,b,c] λa b=>jc 1 a λa=>jf (A.tup [jX a,b])):=gq Tryz.func117
theorem jFY:G 118 [a,b,c,d,e,f]=jc 1 a λa=>jc 1 d λd=>Q0 65 [jX a] λg=>jl g false λ_=>yD g 65 [jX d] λh=>km g (Jg .not h) λh=>zJ g (vb true) h (jf (A.tup [A.agg [A.sl 3 []],vb false])) (YV 148 [jX a,b,c,jX d,e,f] λa b=>jc 1 a λa=>jf (A.tup [jX a,b])):=gq Tryz.func118
theorem jHK:G 119 [a,b]=jc 1 a λa=>kF 65 [jX a] λc=>qw c (jf (A.tup [A.agg [A.sl 3 []],vb false])) (YV 149 [jX a,b] λa b=>jc 1 a λa=>jf (A.tup [jX a,b])):=gq Tryz.func119
theorem jHL:G 120 [a,b]=jc 2 a λa=>Zv b (vi 1) (jb a 0) (jb a 1) [] [] []:=gq Tryz.func120
theorem ji7:Zv a b c d p q r=JP b a (JO 1 a b λe=>Je 1 4 d e 3 λe=>jc 1 e λe=>jW (jb e 0) λf=>JQ f (vi 1) λf=>jl f false λ_=>jP f (jb e 0) λg=>km f (jk 3 g (vi 0)) λg=>km f (qe g 0) λg=>km f (j9 g) λg=>km f (Jg .not g) λg=>zJ f (vb true) g (jf (A.tup [A.agg [A.sl 3 r],vb false])) (Je 2 3 (jb e 0) (vi 0) 1 λe=>jc 2 e λe=>brn (jM ((jv p)+(jv [[jb e 0,jb e 1]])) 40) (jq b (vi 1) λb=>Zv a b c d (jR p [[jb e 0,jb e 1]]) q r) none)) (JO 1 a (vi 0) λa=>Je 1 4 d a 3 λa=>jc 1 a λa=>yz (yB p) (vi 0) (jf (A.tup [A.agg [A.sl 3 r],vb false])) ((G 150 [jX a,A.sl 2 p]).bind λb=>zD b λb=>kM b 0 λc=>kM b 1 λb=>jc 1 c λc=>YX b λb=>jl b false λ_=>jl b false λ_=>yD b 94 [jX c,jX a] λa=>zJ b (vb true) a (jf (A.tup [A.agg [A.sl 3 r],vb false])) (brn (jU (jb c 0)) (jf (A.tup [jX c,vb true])) none))):=hq Tryz.func120
theorem jJD:G 121 [a,b]=jc 2 a λa=>jc 2 b λb=>JQ (jb a 0) (jb b 0) λc=>jl c false λ_=>jP c (jb a 1) λd=>km c (kP d) λd=>jl c false λ_=>jP c (jb b 1) λe=>km c (kP e) λe=>km c (jy .neq false d e) λd=>zJ c (vb true) d (jf (vb false)) (jmO (vi 0) (jb a 0) (jb a 1) (jb b 0) (jb b 1)):=gq Tryz.func121
theorem jy8:jmO a b c d e=JP a c (ye 2 2 c a λf=>ye 2 2 e a λg=>kF 121 [f,g] λf=>qw f (jf (vb false)) (jq a (vi 1) λa=>jmO a b c d e)) (jf (vb true)):=hq Tryz.func121
theorem jJF:G 125 [a,b]=jW a λc=>jh2 a b c (vi 0):=gq Tryz.func125
theorem jy9:jh2 a b c d=jB d c (ye 1 1 a d λe=>(DX.run K (MM K) (.callc b [e] false)).bind λe=>Jf e (jf d) (jq d (vi 1) λd=>jh2 a b c d)) (jf (vi (- 1))):=hq Tryz.func125
theorem jJG:G 126 [a]=jc 1 a λa=>jW (jb a 0) λb=>jmP (jb a 0) b (vi 0) (jb a 0):=gq Tryz.func126
theorem jza:jmP a b c d=jB c b (ye 3 3 a c λe=>jc 3 e λe=>Q0 153 [Yq e] λf=>jP f c λg=>km f (jy .gtr false g (vi 0)) λg=>jP f g λg=>jl g true λ_=>jT g d λh=>jT g c λi=>kY g (jy .sub false i (vi 1)) λi=>kY g (jk 3 h i) λh=>kY g (kC 3 h) λh=>jl g true λ_=>ya g 154 [h,Yq e] λe=>kY g (jy .geq false e (vi 0)) λe=>km f (Zf g e (vb false)) λe=>zJ f (vb true) e (jf (vb false)) (jq c (vi 1) λc=>jmP a b c d)) (jW d λa=>jdb a (vi 8) λa=>jf a):=hq Tryz.func126
theorem jJH:G 127 [a]=jc 1 a λa=>kF 155 [jX a] λa=>jW a λb=>jmQ a b (vi 0):=gq Tryz.func127
theorem jzb:jmQ a b c=jB c b (JO 1 a c λd=>kF 156 [c] λe=>jq (sv [88]) e λe=>zV d e (jf (vb false)) (jq c (vi 1) λc=>jmQ a b c)) (jf (vb true)):=hq Tryz.func127
theorem jJI:G 128 [a,b]=jW a λc=>jmR a b c (vi 0):=gq Tryz.func128
theorem jzc:jmR a b c d=jB d c (JO 1 a d λe=>(DX.run K (MM K) (.callc b [e] false)).bind λe=>Jf e (jf d) (jq d (vi 1) λd=>jmR a b c d)) (jf (vi (- 1))):=hq Tryz.func128
theorem jFq:Ql a b c d e f g=JO 1 e a λa=>Je 1 4 c a 3 λa=>jc 1 a λa=>some (A.top,[b,c,d,e,f,g,jb a 0]):=vq Tryz.func129
theorem jFZ:G 130 [a,b,c,d]=jc 1 a λa=>jc 1 c λc=>Q0 105 [jX a] λe=>jl e false λ_=>yD e 105 [jX c] λf=>km e (Jg .not f) λf=>zJ e (vb true) f (jf (A.tup [A.agg [A.sl 3 []],vb false])) (YV 157 [jX a,b,jX c,d] λa b=>jc 1 a λa=>jf (A.tup [jX a,b])):=gq Tryz.func130
theorem jHM:G 131 [a,b,c]=jc 1 a λa=>kF 105 [jX a] λd=>qw d (jf (A.tup [A.agg [A.sl 3 []],vb false])) (YV 158 [jX a,b,c] λa b=>jc 1 a λa=>jf (A.tup [jX a,b])):=gq Tryz.func131
theorem jC5:G 132 [a,b,c,d,e,f]=jc 1 a λa=>jc 1 d λd=>Q0 105 [jX a] λg=>jl g false λ_=>yD g 105 [jX d] λh=>km g (Jg .not h) λh=>zJ g (vb true) h (jf (A.tup [A.agg [A.sl 3 []],vb false])) (YV 159 [jX a,b,c,jX d,e,f] λa b=>jc 1 a λa=>jf (A.tup [jX a,b])):=gq Tryz.func132
theorem jHN:G 133 [a,b]=jc 1 a λa=>kF 105 [jX a] λc=>qw c (jf (A.tup [A.agg [A.sl 3 []],vb false])) (YV 160 [jX a,b] λa b=>jc 1 a λa=>jf (A.tup [jX a,b])):=gq Tryz.func133
theorem jJJ:G 134 [a,b]=jc 2 a λa=>jW b λc=>jfE b c (vi 0) (jb a 0) (jb a 1) []:=gq Tryz.func134
theorem jzd:jfE a b c d e p=jB c b (JO 1 a c λf=>Je 1 4 e f 3 λf=>jc 1 f λf=>jW (jb f 0) λg=>JQ g (vi 1) λg=>jl g false λ_=>jP g (jb f 0) λh=>km g (jk 3 h (vi 0)) λh=>km g (qe h 0) λh=>km g (j9 h) λh=>km g (Jg .not h) λh=>zJ g (vb true) h (jf (A.tup [A.sl 2 [],vb false])) (Je 2 3 (jb f 0) (vi 0) 1 λf=>jc 2 f λf=>brn (jM ((jv p)+(jv [[jb f 0,jb f 1]])) 40) (jq c (vi 1) λc=>jfE a b c d e (jR p [[jb f 0,jb f 1]])) none)) (jf (A.tup [A.sl 2 p,vb true])):=hq Tryz.func134
theorem jF0:G 135 [a,b]=jc 1 a λa=>Q0 105 [jX a] λc=>jP c b λd=>yD c 161 [d] λd=>km c (Jg .not d) λd=>zJ c (vb true) d (jf (A.tup [A.agg [A.sl 3 []],vb false])) (jW (jb a 0) λc=>jh3 b (jb a 0) c (vi 0) [] []):=gq Tryz.func135
theorem jze:jh3 a b c d p q=jB d c (ye 3 3 b d λe=>jc 3 e λe=>kF 162 [A.agg [jb e 1,jb e 2],a,vb false] λf=>kM f 0 λg=>kM f 1 λ_=>kM f 2 λf=>jc 2 g λg=>qw f (jf (A.tup [A.agg [A.sl 3 []],vb false])) (brn (jU (jb e 0)) (brn (jU (jb g 0)) (brn (jU (jb g 1)) (brn (jU (jb e 0)) (brn (jU (jb g 0)) (brn (jU (jb g 1)) (brn (jM ((jv p)+(jv [[jb e 0,jb g 0,jb g 1]])) 48) (jq d (vi 1) λd=>jh3 a b c d (jR p [[jb e 0,jb g 0,jb g 1]]) q) none) none) none) none) none) none) none)) ((G 163 [A.agg [A.sl 3 []],A.sl 3 p]).bind λa=>zD a λa=>kM a 0 λb=>kM a 1 λa=>jc 1 b λb=>jf (A.tup [jX b,a])):=hq Tryz.func135
theorem jJK:G 136 [a,b,c]=jW a λd=>jW b λe=>zV d e (jf (vb false)) (jW a λd=>jmS b c a d (vi 0)):=gq Tryz.func136
theorem jzf:jmS a b c d e=jB e d (ye 3 3 c e λf=>jc 3 f λf=>ye 3 3 a e λg=>jc 3 g λg=>(DX.run K (MM K) (.callc b [Yq f,Yq g] false)).bind λf=>qw f (jf (vb false)) (jq e (vi 1) λe=>jmS a b c d e)) (jf (vb true)):=hq Tryz.func136
theorem jJL:G 137 [a,b]=jc 3 a λa=>jc 3 b λb=>(jy .eql true (jb a 0) (jb b 0)).bind λc=>jl c true λ_=>jl c true λ_=>jl c true λ_=>jl c true λ_=>ya c 164 [A.agg [jb a 1,jb a 2],A.agg [jb b 1,jb b 2]] λa=>jQ c a (vb false) λa=>jf a:=gq Tryz.func137
theorem jJM:G 138 [a]=jc 2 a λa=>(jmN (jb a 1)).bind λb=>yE 2 b 0 λb=>brn (jU (jb a 0)) (brn (jU (jb a 0)) (jf (A.agg [jb a 0,A.sl 2 b])) none) none:=gq Tryz.func138
theorem jx8:jfB a b=brn (jU a) (brn (jU b) ((jmN b).bind λb=>yE 2 b 0 λb=>brn (jU a) (brn (jU a) (some (A.top,[a,A.sl 2 b])) none) none) none) none:=vq Tryz.func138
theorem jJO:G 140 [a]=jc 2 a λa=>kF 166 [jH a,vi 30] λb=>jdb b (vi 30) λb=>jl b true λ_=>ya b 167 [jH a] λa=>kY b (jy .leq false a (vi 8)) λa=>jQ b a (vb false) λa=>jf a:=gq Tryz.func140
theorem jJP:G 141 [a]=jc 2 a λa=>kF 168 [jb a 0] λb=>Jf b (jW (jb a 1) λa=>zU a (vi 0) λa=>jf a) (Q0 142 [jb a 0] λb=>jl b false λ_=>jP b (jb a 1) λc=>km b (kP c) λc=>km b (jy .gtr false c (vi 4)) λc=>zJ b (vb true) c (jf (vb false)) (jmT (vi 0) (jb a 0) (jb a 1))):=gq Tryz.func141
theorem jzh:jmT a b c=JP a c (ye 2 2 c a λd=>kF 141 [d] λd=>qw d (jf (vb false)) (jq a (vi 1) λa=>jmT a b c)) (jf (vb true)):=hq Tryz.func141
theorem jJQ:G 142 [a]=kLS a λb=>Q0 22 [b,vi 1,vi 6] λb=>jP b a λc=>km b (yr c (vi 0)) λc=>km b (jy .lss false c (vy 97)) λc=>jQ b (vb true) c λb=>jP b a λc=>km b (yr c (vi 0)) λc=>km b (jy .gtr false c (vy 122)) λc=>zJ b (vb true) c (jf (vb false)) (zU a (sv [116,114,117,101]) λb=>Jf b (Jf b (jf (vb false)) (KJ a (vi 1))) (zU a (sv [102,97,108,115,101]) λb=>Jf b (Jf b (jf (vb false)) (KJ a (vi 1))) (zU a (sv [116,114,117,116,104]) λb=>Jf b (Jf b (jf (vb false)) (KJ a (vi 1))) (zU a (sv [98,111,116,104]) λb=>Jf b (Jf b (jf (vb false)) (KJ a (vi 1))) (zU a (sv [101,105,116,104,101,114]) λb=>Jf b (Jf b (jf (vb false)) (KJ a (vi 1))) (zU a (sv [105,102]) λb=>Jf b (Jf b (jf (vb false)) (KJ a (vi 1))) (zU a (sv [97,108,108]) λb=>Jf b (Jf b (jf (vb false)) (KJ a (vi 1))) (yz a (sv [115,111,109,101]) (jf (vb false)) (KJ a (vi 1)))))))))):=gq Tryz.func142
theorem jzi:KJ a b=kLS a λc=>jB b c (kIS a b λc=>Q0 169 [c] λc=>jT c a λd=>jT c b λe=>kY c (yr d e) λd=>kY c (jy .neq false d (vy 95)) λd=>zJ c d (vb false) (jf (vb false)) (jq b (vi 1) λb=>KJ a b)) (jf (vb true)):=hq Tryz.func142
theorem jJR:G 143 [a]=jc 2 a λa=>kF 140 [jH a] λb=>jl b true λ_=>ya b 141 [jH a] λa=>jQ b a (vb false) λa=>jf a:=gq Tryz.func143
theorem jJS:G 144 [a,b]=jc 2 a λa=>jc 2 b λb=>kF 168 [jb a 0] λc=>kF 168 [jb b 0] λd=>jT c d λe=>kY c (Jg .not e) λe=>zJ c e (vb false) (jf (vi (- 1))) (YX c λc=>jT c d λd=>zJ c d (vb false) (jf (vi 1)) (zV (jb a 0) (jb b 0) (kF 170 [jb a 0,jb b 0] λa=>jf a) (jW (jb a 1) λc=>JP c (jb b 1) (jf (vi (- 1))) (jW (jb a 1) λc=>jW (jb b 1) λd=>qk c d (jf (vi 1)) (jh5 (vi 0) (jb a 0) (jb a 1) (jb b 0) (jb b 1)))))):=gq Tryz.func144
theorem jzj:jh5 a b c d e=JP a c (ye 2 2 c a λf=>ye 2 2 e a λg=>kF 144 [f,g] λf=>zV f (vi 0) (jf f) (jq a (vi 1) λa=>jh5 a b c d e)) (jf (vi 0)):=hq Tryz.func144
theorem jFr:jmM a p=jc 2 a λa=>kF 168 [jb a 0] λb=>Jf b (kfn true (G 171 [A.sl 1 p,jb a 0]) λb=>Jf b (some (A.top,[A.sl 1 p])) (brn (jU (jb a 0)) (brn (jM ((jv p)+(jv [[jb a 0]])) 16) (some (A.top,[A.sl 1 (jR p [[jb a 0]])])) none) none)) (jd6 (vi 0) (jb a 0) (jb a 1) p):=vq Tryz.func145
theorem jzk:jd6 a b c p=jCs a c p b:=hq Tryz.func145
theorem ji8:jd7 a b c p=jCs a c p b:=hq Tryz.func145
theorem jJT:G 146 [a,b,c,d]=jc 1 a λa=>jc 1 c λc=>kF 172 [jX c] λc=>jc 1 c λc=>jW (jb a 0) λe=>yp e (vi 1) λe=>Q0 22 [b,vi 0,e] λe=>jP e d λf=>jl e false λ_=>jP e (jb c 0) λg=>km e (kP g) λg=>km e (jy .sub false g (vi 1)) λg=>yD e 22 [f,vi 0,g] λf=>km e (Jg .not f) λf=>jQ e (vb true) f λe=>jl e false λ_=>jP e (jb a 0) λf=>jP e b λg=>km e (jk 3 f g) λf=>km e (qe f 0) λf=>km e (j9 f) λf=>jl e false λ_=>jP e (jb c 0) λg=>jP e d λh=>km e (jk 3 g h) λg=>km e (qe g 0) λg=>km e (j9 g) λg=>km e (jy .eql true f g) λf=>zJ e (vb true) f (jf (A.tup [A.agg [A.sl 3 []],vb false])) (Je 2 3 (jb a 0) b 1 λe=>Je 2 3 (jb c 0) d 1 λf=>YV 173 [e,f] λe f=>jc 1 e λe=>qw f (jf (A.tup [A.agg [A.sl 3 []],vb false])) ((jdo (jb a 0) b).bind λa=>yE 3 a 0 λa=>(jdo (jb c 0) d).bind λb=>yE 3 b 0 λb=>brn (jM ((jv a)+(jv b)) 48) ((G 174 [jX e,A.sl 3 (jR a b)]).bind λa=>zD a λa=>kM a 0 λb=>kM a 1 λa=>jc 1 b λb=>jf (A.tup [jX b,a])) none)):=gq Tryz.func146
theorem jJU:G 147 [a,b,c]=jc 1 a λa=>jW (jb a 0) λd=>yp d (vi 1) λd=>Q0 22 [b,vi 0,d] λd=>jP d c λe=>jP d b λf=>km d (jy .add false f (vi 1)) λf=>jl d false λ_=>jP d (jb a 0) λg=>km d (kP g) λg=>km d (jy .sub false g (vi 1)) λg=>yD d 22 [e,f,g] λe=>km d (Jg .not e) λe=>jQ d (vb true) e λd=>jl d false λ_=>jP d (jb a 0) λe=>jP d b λf=>km d (jk 3 e f) λe=>km d (qe e 0) λe=>km d (j9 e) λe=>jl d false λ_=>jP d (jb a 0) λf=>jP d c λg=>km d (jk 3 f g) λf=>km d (qe f 0) λf=>km d (j9 f) λf=>km d (jy .neq true e f) λe=>zJ d (vb true) e (jf (A.tup [A.agg [A.sl 3 []],vb false])) (Je 2 3 (jb a 0) b 1 λb=>Je 2 3 (jb a 0) c 1 λd=>jCt b d a c):=gq Tryz.func147
theorem jsY:G 148 [a,b,c,d,e,f]=jc 1 a λa=>jc 1 d λd=>kF 172 [jX d] λd=>jc 1 d λd=>jW (jb a 0) λg=>yp g (vi 1) λg=>Q0 22 [b,vi 0,g] λg=>jP g e λh=>jl g false λ_=>jP g (jb d 0) λi=>km g (kP i) λi=>km g (jy .sub false i (vi 1)) λi=>yD g 22 [h,vi 0,i] λh=>km g (Jg .not h) λh=>jQ g (vb true) h λg=>jP g c λh=>yD g 22 [h,vi 0,vi 1] λh=>km g (Jg .not h) λh=>jQ g (vb true) h λg=>jl g false λ_=>jP g (jb a 0) λh=>jP g b λi=>km g (jk 3 h i) λh=>km g (kC 3 h) λh=>yD g 176 [h,vb true] λh=>km g (Jg .not h) λh=>jQ g (vb true) h λg=>jP g f λh=>km g (kP h) λh=>km g (jy .eql false h (vi 0)) λh=>zJ g (vb true) h (jf (A.tup [A.agg [A.sl 3 []],vb false])) (kIA 3 (jb a 0) b λg=>jkN g 1 λg=>kAP g 1 λg=>ye 2 2 g c λg=>kIA 3 (jb a 0) b λh=>jkN h 1 λh=>kAP h 1 λh=>yp (vi 1) c λc=>ye 2 2 h c λc=>jc 2 g λg=>jc 2 c λc=>Je 2 3 (jb d 0) e 1 λh=>YV 177 [h,f] λh i=>jc 2 h λh=>YX i λi=>jl i false λ_=>jP i (jb h 0) λj=>yD i 168 [j] λj=>zJ i (vb true) j (jf (A.tup [A.agg [A.sl 3 []],vb false])) (YV 173 [jH g,jH h] λh i=>jc 1 h λh=>qw i (jf (A.tup [A.agg [A.sl 3 []],vb false])) ((G 178 [jX h,jH g]).bind λg=>zD g λg=>(G 178 [jX h,jH c]).bind λi=>zD i λi=>jc 2 g λg=>jc 2 i λi=>Q0 143 [jH g] λj=>jl j false λ_=>yD j 143 [jH i] λk=>km j (Jg .not k) λk=>zJ j (vb true) k (jf (A.tup [A.agg [A.sl 3 []],vb false])) (kF 179 [jH g,jH i] λg=>zU g (vi 1) λi=>jP i g λg=>km i (jy .eql false g (vi 3)) λg=>zJ i (vb true) g (jf (A.tup [A.agg [A.sl 3 []],vb false])) ((jdo (jb a 0) b).bind λa=>yE 3 a 0 λa=>(jdo (jb d 0) e).bind λb=>yE 3 b 0 λb=>brn (jM ((jv a)+(jv b)) 48) (YW 3 (jb d 0) e 0 λg=>Je 2 3 (jb d 0) e 1 λd=>kF 180 [d,f,jH c] λc=>(zH (zF (K.at 148) 95) [vb false,sv [],A.sl 2 []] [(0,g),(1,c)]).bind λc=>jc 3 c λc=>brn (jM ((jv (jR a b))+(jv [[jb c 0,jb c 1,jb c 2]])) 48) ((G 174 [jX h,A.sl 3 (jR (jR a b) [[jb c 0,jb c 1,jb c 2]])]).bind λa=>zD a λa=>kM a 0 λb=>kM a 1 λa=>jc 1 b λb=>jf (A.tup [jX b,a])) none) none))))):=gq Tryz.func148
theorem jJV:G 149 [a,b]=jc 1 a λa=>jW (jb a 0) λc=>yp c (vi 1) λc=>Q0 22 [b,vi 0,c] λc=>jl c false λ_=>jP c (jb a 0) λd=>jP c b λe=>km c (jk 3 d e) λd=>km c (kC 3 d) λd=>yD c 176 [d,vb false] λd=>km c (Jg .not d) λd=>zJ c (vb true) d (jf (A.tup [A.agg [A.sl 3 []],vb false])) (kIA 3 (jb a 0) b λc=>jkN c 1 λc=>kAP c 1 λc=>ye 2 2 c (vi 0) λc=>kIA 3 (jb a 0) b λd=>jkN d 1 λd=>kAP d 1 λd=>ye 2 2 d (vi 1) λd=>jCt c d a b):=gq Tryz.func149
theorem jC6:G 150 [a,b]=jc 1 a λa=>Q0 65 [jX a] λc=>jP c b λd=>yD c 181 [d] λd=>km c (Jg .not d) λd=>zJ c (vb true) d (jf (A.tup [A.agg [A.sl 3 []],vb false])) (YV 182 [jX a,b] λa b=>jc 1 a λa=>jf (A.tup [jX a,b])):=gq Tryz.func150
theorem jJX:G 153 [a]=jc 3 a λa=>kF 183 [A.agg [jb a 1,jb a 2]] λa=>jf a:=gq Tryz.func153
theorem jJY:G 154 [a,b]=jc 3 a λa=>jc 3 b λb=>kF 185 [A.agg [jb a 1,jb a 2],A.agg [jb b 1,jb b 2]] λc=>kF 187 [jb a 0] λa=>kF 187 [jb b 0] λb=>kF 186 [a,b] λa=>brn (jU c) (brn (jU a) (kfn true (G 184 [A.sl 1 [[c],[a]]]) λa=>jf a) none) none:=gq Tryz.func154
theorem jJZ:G 155 [a]=jc 1 a λa=>jW (jb a 0) λb=>jh6 (jb a 0) b (vi 0) []:=gq Tryz.func155
theorem jzm:jh6 a b c p=jB c b (ye 3 3 a c λd=>jc 3 d λd=>(jbb (jb d 1) (jb d 2) p).bind λd=>yE 1 d 0 λd=>jq c (vi 1) λc=>jh6 a b c d) (jf (A.sl 1 p)):=hq Tryz.func155
theorem jJ0:G 157 [a,b,c,d]=jc 1 a λa=>jc 1 c λc=>Q0 190 [jX a,b] λe=>jl e false λ_=>jP e d λf=>yD e 190 [jX c,f] λf=>km e (Jg .not f) λf=>jQ e (vb true) f λe=>jl e false λ_=>jP e (jb a 0) λf=>jP e b λg=>km e (jk 3 f g) λf=>km e (qe f 0) λf=>km e (j9 f) λf=>jl e false λ_=>jP e (jb c 0) λg=>jP e d λh=>km e (jk 3 g h) λg=>km e (qe g 0) λg=>km e (j9 g) λg=>km e (jy .eql true f g) λf=>zJ e (vb true) f (jf (A.tup [A.agg [A.sl 3 []],vb false])) (kF 191 [jX c] λc=>jc 1 c λc=>Je 2 3 (jb a 0) b 1 λe=>Je 2 3 (jb c 0) d 1 λf=>YV 192 [e,f] λe f=>jc 1 e λe=>qw f (jf (A.tup [A.agg [A.sl 3 []],vb false])) (kF 194 [jX a,b] λa=>kF 194 [jX c,d] λb=>brn (jU a) (brn (jU b) ((jfC [[a],[b]]).bind λa=>jCu a e) none) none)):=gq Tryz.func157
theorem jJ1:G 158 [a,b,c]=jc 1 a λa=>Q0 190 [jX a,b] λd=>jl d false λ_=>jP d c λe=>yD d 190 [jX a,e] λe=>km d (Jg .not e) λe=>jQ d (vb true) e λd=>jP d b λe=>jP d c λf=>km d (jy .geq false e f) λe=>jQ d (vb true) e λd=>jl d false λ_=>jP d (jb a 0) λe=>jP d b λf=>km d (jk 3 e f) λe=>km d (qe e 0) λe=>km d (j9 e) λe=>jl d false λ_=>jP d (jb a 0) λf=>jP d c λg=>km d (jk 3 f g) λf=>km d (qe f 0) λf=>km d (j9 f) λf=>km d (jy .neq true e f) λe=>zJ d (vb true) e (jf (A.tup [A.agg [A.sl 3 []],vb false])) (Je 2 3 (jb a 0) b 1 λb=>Je 2 3 (jb a 0) c 1 λd=>jCv b d a c):=gq Tryz.func158
theorem jpQ:G 159 [a,b,c,d,e,f]=jc 1 a λa=>jc 1 d λd=>Q0 190 [jX a,b] λg=>jl g false λ_=>jP g e λh=>yD g 190 [jX d,h] λh=>km g (Jg .not h) λh=>jQ g (vb true) h λg=>jP g c λh=>yD g 47 [h,vi 0,vi 1] λh=>km g (Jg .not h) λh=>jQ g (vb true) h λg=>jl g false λ_=>jP g (jb a 0) λh=>jP g b λi=>km g (jk 3 h i) λh=>km g (qe h 0) λh=>km g (j9 h) λh=>km g (Jg .not h) λh=>jQ g (vb true) h λg=>jl g false λ_=>jP g (jb a 0) λh=>jP g b λi=>km g (jk 3 h i) λh=>km g (qe h 1) λh=>km g (kC 2 h) λh=>yD g 195 [h] λh=>km g (Jg .not h) λh=>jQ g (vb true) h λg=>jP g f λh=>km g (kP h) λh=>km g (jy .eql false h (vi 0)) λh=>zJ g (vb true) h (jf (A.tup [A.agg [A.sl 3 []],vb false])) (kIA 3 (jb a 0) b λg=>jkN g 1 λg=>kAP g 1 λg=>ye 2 2 g c λg=>kIA 3 (jb a 0) b λh=>jkN h 1 λh=>kAP h 1 λh=>yp (vi 1) c λc=>ye 2 2 h c λc=>jc 2 g λg=>jc 2 c λc=>kF 191 [jX d] λd=>jc 1 d λd=>Je 2 3 (jb d 0) e 1 λh=>jc 2 h λh=>YV 196 [jH h,f] λi j=>jc 2 i λi=>YX j λj=>jl j false λ_=>yD j 197 [jH i] λk=>zJ j (vb true) k (jf (A.tup [A.agg [A.sl 3 []],vb false])) (YV 192 [jH g,jH i] λi j=>jc 1 i λi=>qw j (jf (A.tup [A.agg [A.sl 3 []],vb false])) ((G 198 [jX i,jH g]).bind λg=>zD g λg=>kM g 0 λj=>kM g 1 λg=>jc 2 j λj=>(G 198 [jX i,jH c]).bind λk=>zD k λk=>kM k 0 λl=>kM k 1 λk=>jc 2 l λl=>YX g λg=>jP g k λk=>km g (Jg .not k) λk=>zJ g (vb true) k (jf (A.tup [A.agg [A.sl 3 []],vb false])) (kF 199 [jH j,jH l] λg=>zU g (vi 1) λj=>jP j g λg=>km j (jy .eql false g (vi 3)) λg=>zJ j (vb true) g (jf (A.tup [A.agg [A.sl 3 []],vb false])) (YW 3 (jb d 0) e 0 λg=>kF 200 [jH h,f,jH c] λc=>(zH (zF (K.at 159) 95) [vb false,sv [],A.sl 2 []] [(0,g),(1,c)]).bind λc=>jc 3 c λc=>kF 194 [jX a,b] λa=>kF 194 [jX d,e] λb=>brn (jU (jb c 0)) (brn (jU (jb c 1)) (brn (jU (jb c 2)) (brn (jU a) (brn (jU b) ((jfC [[a],[b],[A.sl 3 [[jb c 0,jb c 1,jb c 2]]]]).bind λa=>jCu a i) none) none) none) none) none))))):=gq Tryz.func159
theorem jJ2:G 160 [a,b]=jc 1 a λa=>Q0 190 [jX a,b] λc=>jl c false λ_=>jP c (jb a 0) λd=>jP c b λe=>km c (jk 3 d e) λd=>km c (qe d 0) λd=>km c (j9 d) λd=>jQ c (vb true) d λc=>jl c false λ_=>jP c (jb a 0) λd=>jP c b λe=>km c (jk 3 d e) λd=>km c (qe d 1) λd=>km c (kC 2 d) λd=>yD c 195 [d] λd=>km c (Jg .not d) λd=>zJ c (vb true) d (jf (A.tup [A.agg [A.sl 3 []],vb false])) (kIA 3 (jb a 0) b λc=>jkN c 1 λc=>kAP c 1 λc=>ye 2 2 c (vi 0) λc=>kIA 3 (jb a 0) b λd=>jkN d 1 λd=>kAP d 1 λd=>ye 2 2 d (vi 1) λd=>jCv c d a b):=gq Tryz.func160
theorem jJ3:G 161 [a]=jW a λb=>jdb b (vi 10) λb=>jT b a λa=>ya b 201 [a,A.fn 202 []] λa=>kY b (Jg .not a) λa=>jQ b a (vb false) λa=>jf a:=gq Tryz.func161
theorem jJ4:G 162 [a,b,c]=jc 2 a λa=>kF 138 [jH a] λa=>jc 2 a λa=>jh7 b c (vi 0) (sv []) (jb a 0) (jb a 1) []:=gq Tryz.func162
theorem jF6:jh7 a b c d e f p=YV 204 [A.agg [e,f],a,b] λg h=>jc 2 g λg=>qw h (jCw e f c) (zU c (vi 50) λe=>jl e false λ_=>yD e 205 [jH g] λf=>km e (Jg .not f) λf=>zJ e (vb true) f (jf (A.tup [A.agg [sv [],A.sl 2 []],vi 0,vb false])) (brn (jU (jb g 0)) (brn (jU (jb g 1)) (jq c (vi 1) λc=>jh7 a b c d (jb g 0) (jb g 1) p) none) none)):=hq Tryz.func162
theorem jJ5:G 163 [a,b]=jc 1 a λa=>(G 206 [jX a,b]).bind λa=>zD a λa=>kM a 0 λb=>kM a 1 λa=>jc 1 b λb=>qw a (jf (A.tup [A.agg [A.sl 3 []],vb false])) (kF 207 [jX b] λa=>jc 1 a λa=>kF 105 [jX a] λb=>jv3 b a):=gq Tryz.func163
theorem jJ6:G 164 [a,b]=jc 2 a λa=>jc 2 b λb=>zU (jb a 0) (jb b 0) λc=>jl c true λ_=>jT c (jb a 1) λa=>jl c true λ_=>jT c (jb b 1) λb=>ya c 208 [a,b,A.fn 164 []] λa=>jQ c a (vb false) λa=>jf a:=gq Tryz.func164
theorem jFt:jmN a=jW a λb=>yz b (vi 0) (some (A.top,[A.sl 2 []])) (jW a λb=>kMk 40 b b λb=>jW a λc=>jea a c (vi 0) (yH b [sv [],A.sl 2 []])):=vq Tryz.func165
theorem jql:jea a b c p=jB c b (ye 2 2 a c λd=>jc 2 d λd=>kF 138 [jH d] λd=>qZ (jv p) c λe=>jc 2 d λd=>kRG p e λf=>jq c (vi 1) λc=>jea a b c (kX p e (jS f 0 [jb d 0,jb d 1]))) (some (A.top,[A.sl 2 p])):=hq Tryz.func165
theorem jJ7:G 166 [a,b]=jc 2 a λa=>jmW b (vi 1) (vi 0) (jb a 0) (jb a 1):=gq Tryz.func166
theorem js1:jmW a b c d e=jW e λf=>KE c f λf=>jT f b λg=>jT f a λh=>kY f (jy .leq false g h) λg=>zJ f g (vb false) (ye 2 2 e c λf=>yp a b λg=>kF 166 [f,g] λf=>jq b f λb=>jq c (vi 1) λc=>jmW a b c d e) (jf b):=hq Tryz.func166
theorem jJ8:G 167 [a]=jc 2 a λa=>jmX (vi 0) (vi 0) (jb a 0) (jb a 1):=gq Tryz.func167
theorem jzn:jmX a b c d=JP b d (ye 2 2 d b λe=>kF 167 [e] λe=>kF 209 [a,e] λa=>jq b (vi 1) λb=>jmX a b c d) (jq a (vi 1) λa=>jf a):=hq Tryz.func167
theorem jJ9:G 168 [a]=kLS a λb=>Q0 22 [b,vi 1,vi 4] λb=>jP b a λc=>km b (yr c (vi 0)) λc=>km b (jy .lss false c (vy 65)) λc=>jQ b (vb true) c λb=>jP b a λc=>km b (yr c (vi 0)) λc=>km b (jy .gtr false c (vy 90)) λc=>zJ b (vb true) c (jf (vb false)) (jfF a (vi 1)):=gq Tryz.func168
theorem jzo:jfF a b=kLS a λc=>jB b c (kIS a b λc=>kF 169 [c] λc=>qw c (jf (vb false)) (jq b (vi 1) λb=>jfF a b)) (jf (vb true)):=hq Tryz.func168
theorem jKa:G 169 [a]=jaR a (vy 97) λb=>jT b a λc=>kY b (jy .leq false c (vy 122)) λc=>jQ b c (vb false) λb=>jP b a λc=>km b (jy .geq false c (vy 48)) λc=>jP b c λc=>jT c a λa=>kY c (jy .leq false a (vy 57)) λa=>km b (Zf c a (vb false)) λa=>jQ b (vb true) a λa=>jf a:=gq Tryz.func169
theorem jKb:G 170 [a,b]=jB a b (jf (vi (- 1))) (qk a b (jf (vi 1)) (jf (vi 0))):=gq Tryz.func170
theorem jKc:G 171 [a,b]=jmZ a b (vi 0):=gq Tryz.func171
theorem jzp:jmZ a b c=JP c a (JO 1 a c λd=>yz d b (jf (vb true)) (jq c (vi 1) λc=>jmZ a b c)) (jf (vb false)):=hq Tryz.func171
theorem jKd:G 172 [a]=jc 1 a λa=>kF 114 [jX a] λb=>kF 210 [jX a,b,sv [89]] λa=>jc 1 a λa=>jf (jX a):=gq Tryz.func172
theorem jKe:G 173 [a,b]=jc 2 a λa=>jc 2 b λb=>brn (jU (jb a 0)) (brn (jU (jb a 1)) (brn (jU (jb b 0)) (brn (jU (jb b 1)) (brn (jU (jb a 0)) (brn (jU (jb a 1)) (brn (jU (jb b 0)) (brn (jU (jb b 1)) (jsu [[jb a 0,jb a 1,jb b 0,jb b 1]] [] [] []) none) none) none) none) none) none) none) none:=gq Tryz.func173
theorem jF7:jsu p q r s=jCx p s r q:=hq Tryz.func173
theorem js2:jh8 a b p q r s=qk (nA (zq b)) (vi 0) (qZ (zq b) (vi 0) λc=>kRN p ((zq a)+c) 0 2 λc=>(G 211 [A.agg [A.sl 3 s],c]).bind λc=>zD c λc=>kM c 0 λd=>kM c 1 λc=>jc 2 d λd=>qZ (zq b) (vi 0) λe=>kRN p ((zq a)+e) 2 2 λe=>(G 211 [A.agg [A.sl 3 s],e]).bind λe=>zD e λe=>kM e 0 λf=>kM e 1 λe=>jc 2 f λf=>YX c λc=>jP c e λe=>km c (Jg .not e) λe=>zJ c (vb true) e (jf (A.tup [A.agg [A.sl 3 r],vb false])) (kB (zq b) (zj p (zq a)) none λb=>kB 0 b (some (vi 1)) λc=>kF 121 [jH d,jH f] λe=>Jf e (qw (vb true) (jf (A.tup [A.agg [A.sl 3 r],vb false])) (jh8 (nA ((zq a)+c)) (nA (kz b c)) p q r s)) (kF 168 [jb d 0] λe=>jl e true λ_=>jT e (jb f 0) λg=>ya e 168 [g] λg=>jQ e g (vb false) λe=>jl e true λ_=>jT e (jb d 0) λg=>jl e true λ_=>jT e (jb f 0) λh=>kY e (jy .lss false g h) λg=>zJ e g (vb false) (jyy s f d r a c b p q) (kF 168 [jb d 0] λe=>Jf e (jyy s d f r a c b p q) (kF 168 [jb f 0] λe=>Jf e (jyy s f d r a c b p q) (JQ (jb d 0) (jb f 0) λe=>jl e false λ_=>jP e (jb d 1) λg=>km e (kP g) λg=>jl e false λ_=>jP e (jb f 1) λh=>km e (kP h) λh=>km e (jy .neq false g h) λg=>zJ e (vb true) g (jf (A.tup [A.agg [A.sl 3 r],vb false])) (jm0 (nA ((zq a)+c)) (nA (kz b c)) (vb true) (vi 0) (jb d 0) (jb d 1) (jb f 0) (jb f 1) p q r s []))))))) (jf (A.tup [A.agg [A.sl 3 s],vb true])):=hq Tryz.func173
theorem js3:Q5 a b c p q r=qk (nA (zq b)) (vi 0) (qZ (zq b) (vi 0) λd=>kRN p ((zq a)+d) 0 2 λd=>(G 211 [A.agg [c],d]).bind λd=>zD d λd=>kM d 0 λe=>kM d 1 λd=>jc 2 e λe=>qZ (zq b) (vi 0) λf=>kRN p ((zq a)+f) 2 2 λf=>(G 211 [A.agg [c],f]).bind λf=>zD f λf=>kM f 0 λg=>kM f 1 λf=>jc 2 g λg=>YX d λd=>jP d f λf=>km d (Jg .not f) λf=>zJ d (vb true) f (jf (A.tup [A.agg [A.sl 3 r],vb false])) (kB (zq b) (zj p (zq a)) none λb=>kB 0 b (some (vi 1)) λd=>kF 121 [jH e,jH g] λf=>Jf f (qw (vb true) (jf (A.tup [A.agg [A.sl 3 r],vb false])) (Q5 (nA ((zq a)+d)) (nA (kz b d)) c p q r)) (kF 168 [jb e 0] λf=>jl f true λ_=>jT f (jb g 0) λh=>ya f 168 [h] λh=>jQ f h (vb false) λf=>jl f true λ_=>jT f (jb e 0) λh=>jl f true λ_=>jT f (jb g 0) λi=>kY f (jy .lss false h i) λh=>zJ f h (vb false) (jyz c g e r a d b p q) (kF 168 [jb e 0] λf=>Jf f (jyz c e g r a d b p q) (kF 168 [jb g 0] λf=>Jf f (jyz c g e r a d b p q) (JQ (jb e 0) (jb g 0) λf=>jl f false λ_=>jP f (jb e 1) λh=>km f (kP h) λh=>jl f false λ_=>jP f (jb g 1) λi=>km f (kP i) λi=>km f (jy .neq false h i) λh=>zJ f (vb true) h (jf (A.tup [A.agg [A.sl 3 r],vb false])) (jm1 (nA ((zq a)+d)) (nA (kz b d)) (vb true) (vi 0) c (jb e 0) (jb e 1) (jb g 0) (jb g 1) p q r []))))))) (brn (jU c) (jf (A.tup [A.agg [c],vb true])) none):=hq Tryz.func173
theorem jF8:jm0 a b c d e f g h p q r s t=jCA d f h t a b c e g p q r s:=hq Tryz.func173
theorem jF9:jm1 a b c d e f g h i p q r s=jCB d g i s a b c e f h p q r:=hq Tryz.func173
theorem jzq:jsv a b c d e f g h p q r s t=jCA d f h q a b c e g p r s t:=hq Tryz.func173
theorem js4:jdq p q r s=jCx p s r q:=hq Tryz.func173
theorem jzr:jsw a b c d e f g h i p q r s=jCB d g i q a b c e f h p r s:=hq Tryz.func173
theorem jzs:jfG a p q r=qk (yB p) (vi 0) (qZ (jv p) (vi 0) λb=>kRN p b 0 2 λb=>(G 211 [A.agg [a],b]).bind λb=>zD b λb=>kM b 0 λc=>kM b 1 λb=>jc 2 c λc=>qZ (jv p) (vi 0) λd=>kRN p d 2 2 λd=>(G 211 [A.agg [a],d]).bind λd=>zD d λd=>kM d 0 λe=>kM d 1 λd=>jc 2 e λe=>YX b λb=>jP b d λd=>km b (Jg .not d) λd=>zJ b (vb true) d (jf (A.tup [A.agg [A.sl 3 r],vb false])) (kB (zX p) (zj p 0) none λb=>kB 0 b (some (vi 1)) λd=>kF 121 [jH c,jH e] λf=>Jf f (qw (vb true) (jf (A.tup [A.agg [A.sl 3 r],vb false])) (Q5 (nA (0+d)) (nA (kz b d)) a p q r)) (kF 168 [jb c 0] λf=>jl f true λ_=>jT f (jb e 0) λg=>ya f 168 [g] λg=>jQ f g (vb false) λf=>jl f true λ_=>jT f (jb c 0) λg=>jl f true λ_=>jT f (jb e 0) λh=>kY f (jy .lss false g h) λg=>zJ f g (vb false) (jyA a e c r d b p q) (kF 168 [jb c 0] λf=>Jf f (jyA a c e r d b p q) (kF 168 [jb e 0] λf=>Jf f (jyA a e c r d b p q) (JQ (jb c 0) (jb e 0) λf=>jl f false λ_=>jP f (jb c 1) λg=>km f (kP g) λg=>jl f false λ_=>jP f (jb e 1) λh=>km f (kP h) λh=>km f (jy .neq false g h) λg=>zJ f (vb true) g (jf (A.tup [A.agg [A.sl 3 r],vb false])) (jm1 (nA (0+d)) (nA (kz b d)) (vb true) (vi 0) a (jb c 0) (jb c 1) (jb e 0) (jb e 1) p q r []))))))) (brn (jU a) (jf (A.tup [A.agg [a],vb true])) none):=hq Tryz.func173
theorem jKf:G 174 [a,b]=jc 1 a λa=>(G 213 [jX a,b]).bind λa=>zD a λa=>kM a 0 λb=>kM a 1 λa=>jc 1 b λb=>qw a (jf (A.tup [A.agg [A.sl 3 []],vb false])) ((G 214 [jX b]).bind λa=>zD a λa=>kM a 0 λb=>kM a 1 λa=>jc 1 b λb=>YX a λa=>jl a false λ_=>yD a 92 [jX b] λc=>km a (Jg .not c) λc=>zJ a (vb true) c (jf (A.tup [A.agg [A.sl 3 []],vb false])) (brn (jU (jb b 0)) (jf (A.tup [jX b,vb true])) none)):=gq Tryz.func174
theorem jFu:jdo a b=kSl 3 a none (some b) λc=>kRs 3 c λc=>brn (jM (jv c) 48) (jq b (vi 1) λb=>kSl 3 a (some b) none λa=>kRs 3 a λa=>brn (jM ((jv c)+(jv a)) 48) (some (A.top,[A.sl 3 (jR c a)])) none) none:=vq Tryz.func175
theorem jKg:G 176 [a,b]=jc 3 a λa=>(jy .eql true (jb a 0) b).bind λb=>jl b true λ_=>jl b true λ_=>jT b (jb a 1) λa=>kY b (jy .eql false a (sv [61])) λa=>jQ b a (vb false) λa=>jf a:=gq Tryz.func176
theorem jHO:G 177 [a,b]=jc 2 a λa=>jh9 b (vi 0) (jb a 0) (jb a 1) (sv []) []:=gq Tryz.func177
theorem joe:jh9 a b c d e p=JP b a (JO 1 a b λc=>jW d λf=>yp f (vi 1) λf=>kF 22 [c,vi 0,f] λc=>qw c (jf (A.tup [A.agg [sv [],A.sl 2 []],vb false])) (JO 1 a b λc=>ye 2 2 d c λc=>jc 2 c λc=>jq b (vi 1) λb=>jh9 a b (jb c 0) (jb c 1) e p)) ((G 83 [A.agg [c,d]]).bind λa=>zD a λa=>jc 2 a λa=>jf (A.tup [jH a,vb true])):=hq Tryz.func177
theorem jKh:G 178 [a,b]=jc 1 a λa=>jc 2 b λb=>kF 168 [jb b 0] λc=>Jf c (kF 215 [jX a,jb b 0] λc=>jf2 c (vi 0) (Je 2 3 (jb a 0) c 1 λa=>(G 83 [a]).bind λa=>zD a λa=>jc 2 a λa=>jf (jH a)) (jCC b)) (brn (jU (jb b 0)) (brn (jU (jb b 0)) (jm2 (vi 0) (jb a 0) (jb b 0) (jb b 1) (sv []) (jb b 0) [] []) none) none):=gq Tryz.func178
theorem jzt:jm2 a b c d e f p q=JP a d (ye 2 2 d a λg=>(G 178 [A.agg [b],g]).bind λg=>zD g λg=>jc 2 g λg=>brn (jM ((jv q)+(jv [[jb g 0,jb g 1]])) 40) (jq a (vi 1) λa=>jm2 a b c d e f p (jR q [[jb g 0,jb g 1]])) none) (brn (jU f) (jf (A.agg [f,A.sl 2 q])) none):=hq Tryz.func178
theorem jKi:G 179 [a,b]=jc 2 a λa=>jc 2 b λb=>kF 121 [jH a,jH b] λc=>Jf c (jf (vi 1)) (kF 216 [A.sl 1 [],jH a] λc=>kF 216 [c,jH b] λc=>brn (jU c) (brn (jU c) (jW c λd=>zU d (vi 0) λd=>jl d false λ_=>jP d c λe=>km d (kP e) λe=>km d (jy .gtr false e (vi 12)) λe=>zJ d (vb true) e (jf (vi 0)) (jia (vi 0) (jb a 0) (jb a 1) (jb b 0) (jb b 1) c (vi 1) [])) none) none):=gq Tryz.func179
theorem jzu:jia a b c d e f g p=JP a f (brn (jM ((jv p)+(jv [[vi 1]])) 8) (jq a (vi 1) λa=>jia a b c d e f g (jR p [[vi 1]])) none) (kfn true (G 217 [A.agg [f,A.sl 1 p,g],A.agg [b,c],A.agg [d,e]]) λa=>kM a 0 λb=>kM a 1 λa=>qw a (jf (vi 0)) (jf b)):=hq Tryz.func179
theorem jHP:G 180 [a,b,c]=jc 2 a λa=>jc 2 c λc=>jW b λd=>yz d (vi 0) ((jue (jb c 0) (jb c 1)).bind λa=>jCD a) ((jue (jb a 0) (jb a 1)).bind λd=>yY d 0 λe=>yE 2 d 1 λd=>brn (jU e) (JO 1 b (vi 0) λf=>JO 1 b (vi 0) λg=>ye 2 2 (jb a 1) g λa=>kSl 1 b (some (vi 1)) none λb=>kF 180 [a,b,jH c] λa=>jCE d f a e) none):=gq Tryz.func180
theorem jKj:G 181 [a]=jm3 a (vi 0):=gq Tryz.func181
theorem jzv:jm3 a b=JP b a (ye 2 2 a b λc=>kF 218 [c] λc=>qw c (jf (vb false)) (jq b (vi 1) λb=>jm3 a b)) (jW a λa=>jdb a (vi 10) λa=>jf a):=hq Tryz.func181
theorem jKk:G 182 [a,b]=jc 1 a λa=>jm4 b (vi 0) (jb a 0) [] []:=gq Tryz.func182
theorem jzw:jm4 a b c p q=JP b c (Je 2 3 c b 1 λd=>kF 219 [d,a,vb false] λd=>kM d 0 λe=>kM d 1 λ_=>kM d 2 λd=>jc 2 e λe=>qw d (jf (A.tup [A.agg [A.sl 3 []],vb false])) (YW 3 c b 0 λd=>brn (jU d) (brn (jU (jb e 0)) (brn (jU (jb e 1)) (brn (jU d) (brn (jU (jb e 0)) (brn (jU (jb e 1)) (brn (jM ((jv p)+(jv [[d,jb e 0,jb e 1]])) 48) (jq b (vi 1) λb=>jm4 a b c (jR p [[d,jb e 0,jb e 1]]) q) none) none) none) none) none) none) none)) ((G 174 [A.agg [A.sl 3 []],A.sl 3 p]).bind λa=>zD a λa=>kM a 0 λb=>kM a 1 λa=>jc 1 b λb=>jf (A.tup [jX b,a])):=hq Tryz.func182
theorem jHQ:G 183 [a]=jc 2 a λa=>kF 195 [jH a] λb=>Jf b (jW (jb a 1) λb=>zU b (vi 2) λb=>jl b true λ_=>ya b 205 [jH a] λc=>jQ b c (vb false) λb=>jl b true λ_=>jT b (jb a 1) λc=>kY b (jk 2 c (vi 0)) λc=>kY b (kC 2 c) λc=>ya b 220 [c] λc=>jQ b c (vb false) λb=>jl b true λ_=>jT b (jb a 1) λa=>kY b (jk 2 a (vi 1)) λa=>kY b (kC 2 a) λa=>ya b 220 [a] λa=>jQ b a (vb false) λa=>jf a) (kF 221 [jb a 0] λb=>jl b true λ_=>ya b 222 [jH a] λa=>jQ b a (vb false) λa=>jf a):=gq Tryz.func183
theorem jKl:G 184 [a]=jW a λb=>jib (vi 0) a b (vi 0):=gq Tryz.func184
theorem js5:jib a b c d=jB d c (JO 1 b d λe=>zV e a (jf e) (jq d (vi 1) λd=>jib a b c d)) (jf a):=hq Tryz.func184
theorem jKm:G 185 [a,b]=jc 2 a λa=>jc 2 b λb=>kF 197 [jH a] λc=>kF 197 [jH b] λd=>jT c d λe=>kY c (Jg .not e) λe=>zJ c e (vb false) (jf (vi (- 1))) (jT d c λc=>kY d (Jg .not c) λc=>zJ d c (vb false) (jf (vi 1)) (kF 223 [jb a 0,jb b 0] λc=>jW (jb a 1) λd=>jW (jb b 1) λe=>kF 186 [d,e] λd=>brn (jU c) (brn (jU d) (kfn true (G 184 [A.sl 1 [[c],[d]]]) λc=>zV c (vi 0) (jf c) (kF 224 [jb a 1,jb b 1,A.fn 185 []] λa=>jf a)) none) none)):=gq Tryz.func185
theorem jKn:G 186 [a,b]=kF 102 [a] λc=>kF 102 [b] λd=>e_5 c d a b:=gq Tryz.func186
theorem jKo:G 187 [a]=Jf a (jf (vi 1)) (jf (vi 0)):=gq Tryz.func187
theorem jya:jbb a b p=brn (jU a) (brn (jU b) (jW b λc=>zU c (vi 0) λc=>jl c true λ_=>ya c 197 [A.agg [a,b]] λd=>zJ c d (vb false) (kfn true (G 225 [A.sl 1 p,a]) λb=>qw b (brn (jU a) (brn (jM ((jv p)+(jv [[a]])) 16) (some (A.top,[A.sl 1 (jR p [[a]])])) none) none) (some (A.top,[A.sl 1 p]))) (jW b λa=>jbj b a (vi 0) p)) none) none:=vq Tryz.func188
theorem jqm:jbj a b c p=jCF c b a p:=hq Tryz.func188
theorem jbL:jbk a b c p=jCF c b a p:=hq Tryz.func188
theorem jKp:G 190 [a,b]=jc 1 a λa=>jW (jb a 0) λa=>yp a (vi 1) λa=>kF 47 [b,vi 0,a] λa=>jf a:=gq Tryz.func190
theorem jKq:G 191 [a]=jc 1 a λa=>kF 155 [jX a] λb=>jW b λc=>jm5 b c (vi 0) (jb a 0) [] []:=gq Tryz.func191
theorem jzx:jm5 a b c d p q=jB c b (JO 1 a c λe=>(Z1 e (some (vi 1)) none).bind λf=>jq (sv [89]) f λf=>(jkT none p e f).bind λe=>jq c (vi 1) λc=>jm5 a b c d e q) ((G 227 [A.agg [d],A.mp p]).bind λa=>zD a λa=>jc 1 a λa=>jf (jX a)):=hq Tryz.func191
theorem jKr:G 192 [a,b]=jc 2 a λa=>jc 2 b λb=>brn (jU (jb a 0)) (brn (jU (jb a 1)) (brn (jU (jb b 0)) (brn (jU (jb b 1)) (brn (jU (jb a 0)) (brn (jU (jb a 1)) (brn (jU (jb b 0)) (brn (jU (jb b 1)) (jsx [[jb a 0,jb a 1,jb b 0,jb b 1]] [] []) none) none) none) none) none) none) none) none:=gq Tryz.func192
theorem jGa:jsx p q r=jCG p r q:=hq Tryz.func192
theorem js6:jic a b p q r=qk (nA (zq b)) (vi 0) (qZ (zq b) (vi 0) λc=>kRN p ((zq a)+c) 0 2 λc=>(G 198 [A.agg [A.sl 3 r],c]).bind λc=>zD c λc=>kM c 0 λd=>kM c 1 λc=>jc 2 d λd=>qZ (zq b) (vi 0) λe=>kRN p ((zq a)+e) 2 2 λe=>(G 198 [A.agg [A.sl 3 r],e]).bind λe=>zD e λe=>kM e 0 λf=>kM e 1 λe=>jc 2 f λf=>kB (zq b) (zj p (zq a)) none λb=>kB 0 b (some (vi 1)) λg=>YX c λc=>jP c e λe=>km c (Jg .not e) λe=>zJ c (vb true) e (jf (A.tup [A.agg [A.sl 3 []],vb false])) (kF 164 [jH d,jH f] λc=>Jf c (jic (nA ((zq a)+g)) (nA (kz b g)) p q r) (kF 197 [jH d] λc=>jl c false λ_=>yD c 197 [jH f] λe=>zJ c (vb true) e (brn (jU (jb d 0)) (brn (jU (jb d 1)) (brn (jU (jb f 0)) (brn (jU (jb f 1)) (YV 228 [A.agg [jb d 0,jb d 1,jb f 0,jb f 1]] λc d=>jc 1 c λc=>qw d (jf (A.tup [A.agg [A.sl 3 []],vb false])) ((G 229 [A.agg [A.sl 3 r],jX c]).bind λc=>jCI c a g b p q)) none) none) none) none) (JQ (jb d 0) (jb f 0) λc=>jl c false λ_=>jP c (jb d 1) λe=>km c (kP e) λe=>jl c false λ_=>jP c (jb f 1) λh=>km c (kP h) λh=>km c (jy .neq false e h) λe=>zJ c (vb true) e (jf (A.tup [A.agg [A.sl 3 []],vb false])) (jW (jb d 1) λc=>jm6 (nA ((zq a)+g)) (nA (kz b g)) (jb d 1) c (vi 0) (jb f 0) (jb f 1) p q r []))))) (jf (A.tup [A.agg [A.sl 3 r],vb true])):=hq Tryz.func192
theorem js7:Q6 a b c p q=qk (nA (zq b)) (vi 0) (qZ (zq b) (vi 0) λd=>kRN p ((zq a)+d) 0 2 λd=>(G 198 [A.agg [c],d]).bind λd=>zD d λd=>kM d 0 λe=>kM d 1 λd=>jc 2 e λe=>qZ (zq b) (vi 0) λf=>kRN p ((zq a)+f) 2 2 λf=>(G 198 [A.agg [c],f]).bind λf=>zD f λf=>kM f 0 λg=>kM f 1 λf=>jc 2 g λg=>kB (zq b) (zj p (zq a)) none λb=>kB 0 b (some (vi 1)) λh=>YX d λd=>jP d f λf=>km d (Jg .not f) λf=>zJ d (vb true) f (jf (A.tup [A.agg [A.sl 3 []],vb false])) (kF 164 [jH e,jH g] λd=>Jf d (Q6 (nA ((zq a)+h)) (nA (kz b h)) c p q) (kF 197 [jH e] λd=>jl d false λ_=>yD d 197 [jH g] λf=>zJ d (vb true) f (brn (jU (jb e 0)) (brn (jU (jb e 1)) (brn (jU (jb g 0)) (brn (jU (jb g 1)) (YV 228 [A.agg [jb e 0,jb e 1,jb g 0,jb g 1]] λd e=>jc 1 d λd=>qw e (jf (A.tup [A.agg [A.sl 3 []],vb false])) ((G 229 [A.agg [c],jX d]).bind λc=>jCI c a h b p q)) none) none) none) none) (JQ (jb e 0) (jb g 0) λd=>jl d false λ_=>jP d (jb e 1) λf=>km d (kP f) λf=>jl d false λ_=>jP d (jb g 1) λi=>km d (kP i) λi=>km d (jy .neq false f i) λf=>zJ d (vb true) f (jf (A.tup [A.agg [A.sl 3 []],vb false])) (jW (jb e 1) λd=>jm7 (nA ((zq a)+h)) (nA (kz b h)) (jb e 1) d (vi 0) c (jb g 0) (jb g 1) p q []))))) (brn (jU c) (jf (A.tup [A.agg [c],vb true])) none):=hq Tryz.func192
theorem jGb:jm6 a b c d e f g p q r s=jCJ e d c g s a b f p q r:=hq Tryz.func192
theorem jGc:jm7 a b c d e f g h p q r=jCK e d c h r a b f g p q:=hq Tryz.func192
theorem jzy:jsy a b c d e f g p q r s=jCJ e d c g q a b f p r s:=hq Tryz.func192
theorem js8:jdr p q r=jCG p r q:=hq Tryz.func192
theorem jzz:jsz a b c d e f g h p q r=jCK e d c h q a b f g p r:=hq Tryz.func192
theorem jzA:jfH a p q=qk (yB p) (vi 0) (qZ (jv p) (vi 0) λb=>kRN p b 0 2 λb=>(G 198 [A.agg [a],b]).bind λb=>zD b λb=>kM b 0 λc=>kM b 1 λb=>jc 2 c λc=>qZ (jv p) (vi 0) λd=>kRN p d 2 2 λd=>(G 198 [A.agg [a],d]).bind λd=>zD d λd=>kM d 0 λe=>kM d 1 λd=>jc 2 e λe=>kB (zX p) (zj p 0) none λf=>kB 0 f (some (vi 1)) λg=>YX b λb=>jP b d λd=>km b (Jg .not d) λd=>zJ b (vb true) d (jf (A.tup [A.agg [A.sl 3 []],vb false])) (kF 164 [jH c,jH e] λb=>Jf b (Q6 (nA (0+g)) (nA (kz f g)) a p q) (kF 197 [jH c] λb=>jl b false λ_=>yD b 197 [jH e] λd=>zJ b (vb true) d (brn (jU (jb c 0)) (brn (jU (jb c 1)) (brn (jU (jb e 0)) (brn (jU (jb e 1)) (YV 228 [A.agg [jb c 0,jb c 1,jb e 0,jb e 1]] λb c=>jc 1 b λb=>qw c (jf (A.tup [A.agg [A.sl 3 []],vb false])) ((G 229 [A.agg [a],jX b]).bind λa=>jCH a g f p q)) none) none) none) none) (JQ (jb c 0) (jb e 0) λb=>jl b false λ_=>jP b (jb c 1) λd=>km b (kP d) λd=>jl b false λ_=>jP b (jb e 1) λh=>km b (kP h) λh=>km b (jy .neq false d h) λd=>zJ b (vb true) d (jf (A.tup [A.agg [A.sl 3 []],vb false])) (jW (jb c 1) λb=>jm7 (nA (0+g)) (nA (kz f g)) (jb c 1) b (vi 0) a (jb e 0) (jb e 1) p q []))))) (brn (jU a) (jf (A.tup [A.agg [a],vb true])) none):=hq Tryz.func192
theorem jFv:jfC p=jeb (vi 0) (yB p) (vi 0) p:=vq Tryz.func193
theorem jqn:jeb a b c p=jB c b (qZ (jv p) c λd=>kRP p d 0 λd=>jW d λd=>jq a d λa=>jB a (vi 0) none (jq c (vi 1) λc=>jeb a b c p)) ((jsl a).bind λa=>yE 3 a 0 λa=>jbl (yB p) (vi 0) a p):=hq Tryz.func193
theorem jqo:jbl a b p q=jB b a (qZ (jv q) b λc=>kRP q c 0 λc=>kRs 3 c λc=>brn (jM ((jv p)+(jv c)) 48) (jq b (vi 1) λb=>jbl a b (jR p c) q) none) (some (A.top,[A.sl 3 p])):=hq Tryz.func193
theorem jKs:G 194 [a,b]=jc 1 a λa=>(jsn (jb a 0)).bind λa=>yE 3 a 0 λa=>jq b (vi 1) λc=>(jsm b c a).bind λa=>yE 3 a 0 λa=>jf (A.sl 3 a):=gq Tryz.func194
theorem jKt:G 195 [a]=jc 2 a λa=>zU (jb a 0) (sv [61]) λa=>jf a:=gq Tryz.func195
theorem jKu:G 196 [a,b]=jc 2 a λa=>jW b λc=>jm8 b c (vi 0) (jb a 0) (jb a 1) (sv []) []:=gq Tryz.func196
theorem jzB:jm8 a b c d e f p=jB c b (JO 1 a c λd=>jW e λg=>yp g (vi 1) λg=>kF 47 [d,vi 0,g] λg=>qw g (jf (A.tup [A.agg [sv [],A.sl 2 []],vb false])) (ye 2 2 e d λd=>jc 2 d λd=>jq c (vi 1) λc=>jm8 a b c (jb d 0) (jb d 1) f p)) (brn (jU d) (brn (jU e) (jf (A.tup [A.agg [d,e],vb true])) none) none):=hq Tryz.func196
theorem jHR:G 197 [a]=jc 2 a λa=>kIS (jb a 0) (vi 0) λa=>kF 233 [a] λa=>jf a:=gq Tryz.func197
theorem jKv:G 198 [a,b]=jc 1 a λa=>jc 2 b λb=>kF 234 [jX a,jH b] λa=>jc 2 a λa=>kF 205 [jH a] λb=>jCL b a:=gq Tryz.func198
theorem jKw:G 199 [a,b]=jc 2 a λa=>jc 2 b λb=>kF 164 [jH a,jH b] λc=>Jf c (jf (vi 1)) ((Q1 (jb a 0) (jb a 1) []).bind λc=>yE 1 c 0 λc=>(Q1 (jb b 0) (jb b 1) c).bind λc=>yE 1 c 0 λc=>qk (yB c) (vi 12) (jf (vi 0)) ((jhX c).bind λc=>yE 1 c 0 λc=>(jso (yB c) [[vi 1]]).bind λd=>yE 1 d 0 λd=>kfn true (G 238 [A.agg [A.sl 1 c,A.sl 1 d,vi 1],jH a,jH b]) λa=>jf a)):=gq Tryz.func199
theorem jHS:G 200 [a,b,c]=jc 2 a λa=>jc 2 c λc=>jW b λd=>yz d (vi 0) ((jfB (jb c 0) (jb c 1)).bind λa=>jCD a) ((jfB (jb a 0) (jb a 1)).bind λd=>yY d 0 λe=>yE 2 d 1 λd=>brn (jU e) (JO 1 b (vi 0) λf=>JO 1 b (vi 0) λg=>ye 2 2 (jb a 1) g λa=>kSl 1 b (some (vi 1)) none λb=>kF 200 [a,b,jH c] λa=>jCE d f a e) none):=gq Tryz.func200
theorem jKx:G 201 [a,b]=kF 239 [a,b] λa=>jaR a (vi 0) λa=>jf a:=gq Tryz.func201
theorem jKy:G 202 [a]=jc 2 a λa=>Q0 203 [jH a] λa=>jf a:=gq Tryz.func202
theorem jHT:G 203 [a]=jc 2 a λa=>kF 195 [jH a] λb=>jl b true λ_=>ya b 183 [jH a] λc=>jQ b c (vb false) λb=>jl b true λ_=>jT b (jb a 1) λc=>kY b (jk 2 c (vi 0)) λc=>kY b (kC 2 c) λc=>jl b true λ_=>jT b (jb a 1) λa=>kY b (jk 2 a (vi 1)) λa=>kY b (kC 2 a) λa=>ya b 199 [c,a] λa=>kY b (jy .eql false a (vi 2)) λa=>jQ b a (vb false) λa=>jf a:=gq Tryz.func203
theorem jKz:G 204 [a,b,c]=jc 2 a λa=>jW (jb a 1) λd=>jm9 b c (jb a 1) d (vi 0) (jb a 0) (jb a 1) (sv []) []:=gq Tryz.func204
theorem jzC:jm9 a b c d e f g h p=jB e d (ye 2 2 c e λi=>jc 2 i λi=>YV 204 [jH i,a,vb true] λi j=>jc 2 i λi=>Jf j ((jfB f g).bind λa=>yY a 0 λb=>yE 2 a 1 λa=>brn (jU b) (qZ (jv a) e λc=>brn (jU (jb i 0)) (brn (jU (jb i 1)) (kRG a c λd=>brn (jU b) (jf (A.tup [A.agg [b,A.sl 2 (kX a c (jS d 0 [jb i 0,jb i 1]))],vb true])) none) none) none) none) (jq e (vi 1) λe=>jm9 a b c d e f g h p)) (jW a λc=>jfI b a c (vi 0) f g h p):=hq Tryz.func204
theorem jzD:jfI a b c d e f g p=jB d c (ye 2 2 b d λh=>jc 2 h λh=>jl a true λ_=>jl a true λ_=>jT a (jb h 1) λi=>kY a (jk 2 i (vi 0)) λi=>kY a (kC 2 i) λi=>jl a true λ_=>jl a true λj=>brn j ((jdp i e f []).bind λi=>yY i 0 λj=>yE 128 i 1 λi=>zJ a j (vb false) (ye 2 2 (jb h 1) (vi 1) λa=>(G 241 [a,A.mp i]).bind λa=>zD a λa=>jc 2 a λa=>jf (A.tup [jH a,vb true])) (jq d (vi 1) λd=>jfI a b c d e f g p)) (zJ a (A.val undef) (vb false) (ye 2 2 (jb h 1) (vi 1) λa=>(G 241 [a,A.mp []]).bind λa=>zD a λa=>jc 2 a λa=>jf (A.tup [jH a,vb true])) (jq d (vi 1) λd=>jfI a b c d e f g p))) (jf (A.tup [A.agg [sv [],A.sl 2 []],vb false])):=hq Tryz.func204
theorem jKA:G 205 [a]=jc 2 a λa=>kF 242 [jH a] λb=>jdb b (vi 30) λb=>jl b true λ_=>ya b 243 [jH a] λa=>kY b (jy .leq false a (vi 8)) λa=>jQ b a (vb false) λa=>jf a:=gq Tryz.func205
theorem jKB:G 206 [a,b]=jc 1 a λa=>jW b λc=>jna b c (vi 0) (jb a 0) [] []:=gq Tryz.func206
theorem jzE:jna a b c d p q=jB c b (ye 3 3 a c λe=>jc 3 e λe=>(G 198 [A.agg [d],A.agg [jb e 1,jb e 2]]).bind λf=>zD f λf=>kM f 0 λg=>kM f 1 λf=>jc 2 g λg=>qw f (jf (A.tup [A.agg [A.sl 3 []],vb false])) (brn (jU (jb e 0)) (brn (jU (jb g 0)) (brn (jU (jb g 1)) (brn (jU (jb e 0)) (brn (jU (jb g 0)) (brn (jU (jb g 1)) (brn (jM ((jv p)+(jv [[jb e 0,jb g 0,jb g 1]])) 48) (jq c (vi 1) λc=>jna a b c d (jR p [[jb e 0,jb g 0,jb g 1]]) q) none) none) none) none) none) none) none)) ((G 245 [A.sl 3 p]).bind λa=>zD a λa=>(G 244 [a]).bind λa=>zD a λa=>kM a 0 λb=>kM a 1 λa=>jc 1 b λb=>jf (A.tup [jX b,a])):=hq Tryz.func206
theorem jKC:G 207 [a]=jc 1 a λa=>kF 87 [jX a] λa=>jc 1 a λa=>jnb (vi 0) (jb a 0) []:=gq Tryz.func207
theorem jzF:jnb a b p=KE a (vi 10) λc=>jl c true λ_=>ya c 127 [A.agg [b]] λd=>kY c (Jg .not d) λd=>zJ c d (vb false) (kF 155 [A.agg [b]] λc=>kF 246 [c,sv [88]] λc=>(G 227 [A.agg [b],c]).bind λb=>zD b λb=>jc 1 b λb=>jq a (vi 1) λa=>jnb a (jb b 0) p) (brn (jU b) (jf (A.agg [b])) none):=hq Tryz.func207
theorem jKD:G 208 [a,b,c]=jW a λd=>jW b λe=>zV d e (jf (vb false)) (jW a λd=>jnc b c a d (vi 0)):=gq Tryz.func208
theorem jzG:jnc a b c d e=jB e d (ye 2 2 c e λf=>jc 2 f λf=>ye 2 2 a e λg=>jc 2 g λg=>(DX.run K (MM K) (.callc b [jH f,jH g] false)).bind λf=>qw f (jf (vb false)) (jq e (vi 1) λe=>jnc a b c d e)) (jf (vb true)):=hq Tryz.func208
theorem jKE:G 209 [a,b]=qk a b (jf a) (jf b):=gq Tryz.func209
theorem jKF:G 210 [a,b,c]=jc 1 a λa=>jnd b c (vi 0) (jb a 0) [] []:=gq Tryz.func210
theorem jzH:jnd a b c d p q=JP c d (YW 3 d c 0 λe=>Je 2 3 d c 1 λf=>kF 247 [f,a,b] λf=>(zH (zF (K.at 210) 95) [vb false,sv [],A.sl 2 []] [(0,e),(1,f)]).bind λe=>jc 3 e λe=>brn (jM ((jv p)+(jv [[jb e 0,jb e 1,jb e 2]])) 48) (jq c (vi 1) λc=>jnd a b c d (jR p [[jb e 0,jb e 1,jb e 2]]) q) none) ((G 248 [A.sl 3 p]).bind λa=>zD a λa=>jc 1 a λa=>jf (jX a)):=hq Tryz.func210
theorem jKG:G 211 [a,b]=jc 1 a λa=>jc 2 b λb=>Q0 249 [jX a] λc=>jl c false λ_=>yD c 250 [jH b] λd=>km c (Jg .not d) λd=>zJ c (vb true) d (jf (A.tup [A.agg [sv [],A.sl 2 []],vb false])) ((G 178 [jX a,jH b]).bind λa=>zD a λa=>jc 2 a λa=>kF 250 [jH a] λb=>jCL b a):=gq Tryz.func211
theorem jKH:G 212 [a,b,c]=jc 1 a λa=>jc 2 c λc=>kF 251 [jH c] λd=>kF 171 [d,b] λd=>Jf d (brn (jU (jb a 0)) (jf (A.tup [jX a,vb false])) none) ((jsp b (jb c 0) (jb c 1) []).bind λb=>yE 3 b 0 λb=>(G 252 [jX a,A.agg [A.sl 3 b]]).bind λa=>zD a λa=>kM a 0 λb=>kM a 1 λa=>jc 1 b λb=>jf (A.tup [jX b,a])):=gq Tryz.func212
theorem jKI:G 213 [a,b]=jc 1 a λa=>jne b (vi 0) (jb a 0) [] []:=gq Tryz.func213
theorem jzI:jne a b c p q=JP b a (Je 2 3 a b 1 λd=>(G 178 [A.agg [c],d]).bind λd=>zD d λd=>jc 2 d λd=>kF 112 [jH d] λe=>qw e (jf (A.tup [A.agg [A.sl 3 []],vb false])) (YW 3 a b 0 λe=>brn (jU e) (brn (jU (jb d 0)) (brn (jU (jb d 1)) (brn (jU e) (brn (jU (jb d 0)) (brn (jU (jb d 1)) (brn (jM ((jv p)+(jv [[e,jb d 0,jb d 1]])) 48) (jq b (vi 1) λb=>jne a b c (jR p [[e,jb d 0,jb d 1]]) q) none) none) none) none) none) none) none)) ((G 248 [A.sl 3 p]).bind λa=>zD a λa=>jc 1 a λa=>kF 91 [jX a] λb=>jv3 b a):=hq Tryz.func213
theorem jKJ:G 214 [a]=jc 1 a λa=>(G 248 [jb a 0]).bind λa=>zD a λa=>jc 1 a λa=>jnf (vi 0) (jb a 0) []:=gq Tryz.func214
theorem jzJ:jnf a b p=KE a (vi 10) λc=>jl c true λ_=>ya c 92 [A.agg [b]] λd=>kY c (Jg .not d) λd=>zJ c d (vb false) (kF 114 [A.agg [b]] λc=>kF 210 [A.agg [b],c,sv [88]] λb=>jc 1 b λb=>jq a (vi 1) λa=>jnf a (jb b 0) p) (kF 91 [A.agg [b]] λa=>brn (jU b) (jf (A.tup [A.agg [b],a])) none):=hq Tryz.func214
theorem jKK:G 215 [a,b]=jc 1 a λa=>jid b (vi 0) (jb a 0):=gq Tryz.func215
theorem jzK:jid a b c=JP b c (YW 3 c b 0 λd=>yz d a (jf b) (jq b (vi 1) λb=>jid a b c)) (jf (vi (- 1))):=hq Tryz.func215
theorem jKL:G 216 [a,b]=jc 2 b λb=>kF 168 [jb b 0] λc=>qw c (kF 254 [a,jb b 0] λa=>jie a (vi 0) (jb b 0) (jb b 1)) (jie a (vi 0) (jb b 0) (jb b 1)):=gq Tryz.func216
theorem jzL:jie a b c d=JP b d (ye 2 2 d b λe=>kF 216 [a,e] λa=>jq b (vi 1) λb=>jie a b c d) (jf a):=hq Tryz.func216
theorem jKM:G 217 [a,b,c]=jc 3 a λa=>jc 2 b λb=>jc 2 c λc=>Q0 255 [Yq a] λd=>jl d false λ_=>jl d false λ_=>yD d 256 [Yq a,jH b] λe=>km d (Jg .not e) λe=>jQ d (vb true) e λd=>jl d false λ_=>jl d false λ_=>yD d 256 [Yq a,jH c] λe=>km d (Jg .not e) λe=>zJ d (vb true) e (jf (A.tup [vi 0,vb false])) (kF 121 [jH b,jH c] λd=>kF 258 [Yq a,jH b,jH c] λe=>kF 258 [Yq a,jH c,jH b] λa=>kF 257 [d,e,a] λa=>jf (A.tup [a,vb true])):=gq Tryz.func217
theorem jHU:G 218 [a]=jc 2 a λa=>kF 112 [jH a] λb=>jl b true λ_=>jT b (jb a 0) λc=>kY b (jy .eql false c (sv [61])) λc=>jQ b c (vb false) λb=>jl b true λ_=>jT b (jb a 1) λc=>kY b (jk 2 c (vi 0)) λc=>kY b (kC 2 c) λc=>jl b true λ_=>jT b (jb a 1) λa=>kY b (jk 2 a (vi 1)) λa=>kY b (kC 2 a) λa=>ya b 179 [c,a] λa=>kY b (jy .eql false a (vi 2)) λa=>jQ b a (vb false) λa=>jf a:=gq Tryz.func218
theorem jKN:G 219 [a,b,c]=jc 2 a λa=>(G 83 [jH a]).bind λa=>zD a λa=>jc 2 a λa=>jif b c (vi 0) (sv []) (jb a 0) (jb a 1) []:=gq Tryz.func219
theorem jGd:jif a b c d e f p=YV 259 [A.agg [e,f],a,b] λg h=>jc 2 g λg=>qw h (jCw e f c) (zU c (vi 50) λe=>jl e false λ_=>yD e 250 [jH g] λf=>km e (Jg .not f) λf=>zJ e (vb true) f (jf (A.tup [A.agg [sv [],A.sl 2 []],vi 0,vb false])) (brn (jU (jb g 0)) (brn (jU (jb g 1)) (jq c (vi 1) λc=>jif a b c d (jb g 0) (jb g 1) p) none) none)):=hq Tryz.func219
theorem jKO:G 220 [a]=jc 2 a λa=>kF 260 [jb a 0] λb=>Jf b (jW (jb a 1) λa=>zU a (vi 0) λa=>jf a) (kF 221 [jb a 0] λb=>jl b true λ_=>jT b (jb a 1) λc=>kY b (kP c) λc=>kY b (jy .leq false c (vi 4)) λc=>jQ b c (vb false) λb=>jl b true λ_=>jT b (jb a 1) λa=>ya b 201 [a,A.fn 261 []] λa=>kY b (Jg .not a) λa=>jQ b a (vb false) λa=>jf a):=gq Tryz.func220
theorem jKP:G 221 [a]=kLS a λb=>jig a b (vi 0):=gq Tryz.func221
theorem jof:jig a b c=jB c b (zU c (vi 0) λd=>jT d a λe=>jT d c λf=>kY d (yr e f) λe=>ya d 262 [e] λe=>kY d (Jg .not e) λe=>jQ d e (vb false) λd=>jP d a λe=>jP d c λf=>km d (yr e f) λe=>yD d 262 [e] λe=>km d (Jg .not e) λe=>jP d e λe=>jT e a λf=>jT e c λg=>kY e (yr f g) λf=>ya e 263 [f] λf=>kY e (Jg .not f) λf=>km d (Zf e f (vb false)) λe=>jP d e λe=>jT e a λf=>jT e c λg=>kY e (yr f g) λf=>kY e (jy .neq false f (vy 95)) λf=>km d (Zf e f (vb false)) λe=>zJ d (vb true) e (jf (vb false)) (jq c (vi 1) λc=>jig a b c)) (kLS a λb=>kF 47 [b,vi 1,vi 6] λb=>ya b 264 [] λc=>jT b a λa=>ya b 225 [c,a] λa=>kY b (Jg .not a) λa=>jQ b a (vb false) λa=>jf a):=hq Tryz.func221
theorem jKQ:G 222 [a]=jc 2 a λa=>kF 205 [jH a] λb=>jl b true λ_=>ya b 220 [jH a] λa=>jQ b a (vb false) λa=>jf a:=gq Tryz.func222
theorem jKS:G 224 [a,b,c]=jW a λd=>jng a b c a d (vi 0):=gq Tryz.func224
theorem jzM:jng a b c d e f=jB f e (ye 2 2 d f λg=>jc 2 g λg=>jW b λh=>jf2 f h (jf (vi 1)) (ye 2 2 b f λh=>jc 2 h λh=>(DX.run K (MM K) (.callc c [jH g,jH h] false)).bind λg=>zV g (vi 0) (jf g) (jq f (vi 1) λf=>jng a b c d e f))) (jW a λa=>JP a b (jf (vi (- 1))) (jf (vi 0))):=hq Tryz.func224
theorem jKT:G 225 [a,b]=kF 266 [a,b] λa=>jaR a (vi 0) λa=>jf a:=gq Tryz.func225
theorem jKU:G 227 [a,b]=jc 1 a λa=>jW (jb a 0) λc=>jnh b (jb a 0) c (vi 0) [] []:=gq Tryz.func227
theorem jzN:jnh a b c d p q=jB d c (ye 3 3 b d λe=>jc 3 e λe=>kF 271 [A.agg [jb e 1,jb e 2],a] λf=>(zH (zF (K.at 227) 95) [vb false,sv [],A.sl 2 []] [(0,jb e 0),(1,f)]).bind λe=>jc 3 e λe=>brn (jM ((jv p)+(jv [[jb e 0,jb e 1,jb e 2]])) 48) (jq d (vi 1) λd=>jnh a b c d (jR p [[jb e 0,jb e 1,jb e 2]]) q) none) ((G 245 [A.sl 3 p]).bind λa=>zD a λa=>jc 1 a λa=>jf (jX a)):=hq Tryz.func227
theorem jKV:G 228 [a]=jc 4 a λa=>brn (jU (jb a 0)) (brn (jU (jb a 1)) (brn (jU (jb a 2)) (brn (jU (jb a 3)) (Q0 197 [jH a] λb=>jl b false λ_=>yD b 197 [A.agg [jb a 2,jb a 3]] λc=>jP b c λc=>jl c true λ_=>jT c (jb a 2) λd=>jl c true λ_=>jT c (jb a 0) λe=>kY c (jy .gtr false d e) λd=>km b (Zf c d (vb false)) λc=>zJ b (vb true) c (brn (jU (jb a 2)) (brn (jU (jb a 3)) (brn (jU (jb a 0)) (brn (jU (jb a 1)) (brn (jU (jb a 2)) (brn (jU (jb a 0)) (brn (jU (jb a 1)) (brn (jU (jb a 2)) (brn (jU (jb a 0)) (brn (jU (jb a 1)) (Q0 272 [jb a 2,jH a] λb=>jl b true λ_=>kY b ((G 273 [A.agg [A.sl 3 [[jb a 2,jb a 0,jb a 1]]]]).bind (fin true)) λc=>jQ b c (vb false) λb=>jf (A.tup [A.agg [A.sl 3 [[jb a 2,jb a 0,jb a 1]]],b])) none) none) none) none) none) none) none) none) none) none) (brn (jU (jb a 0)) (brn (jU (jb a 2)) (brn (jU (jb a 3)) (brn (jU (jb a 0)) (brn (jU (jb a 2)) (brn (jU (jb a 3)) (Q0 272 [jb a 0,A.agg [jb a 2,jb a 3]] λb=>jl b true λ_=>kY b ((G 273 [A.agg [A.sl 3 [[jb a 0,jb a 2,jb a 3]]]]).bind (fin true)) λc=>jQ b c (vb false) λb=>jf (A.tup [A.agg [A.sl 3 [[jb a 0,jb a 2,jb a 3]]],b])) none) none) none) none) none) none)) none) none) none) none:=gq Tryz.func228
theorem jKW:G 229 [a,b]=jc 1 a λa=>jc 1 b λb=>jW (jb a 0) λc=>jih (jb a 0) c (vi 0) (jb a 0) (jb b 0) [] []:=gq Tryz.func229
theorem jzO:jih a b c d e p q=jB c b (ye 3 3 a c λf=>jc 3 f λf=>kF 234 [A.agg [e],A.agg [jb f 1,jb f 2]] λg=>jc 2 g λg=>zV (jb g 0) (jb f 0) (brn (jU (jb f 0)) (brn (jU (jb g 0)) (brn (jU (jb g 1)) (brn (jU (jb f 0)) (brn (jU (jb g 0)) (brn (jU (jb g 1)) (brn (jM ((jv q)+(jv [[jb f 0,jb g 0,jb g 1]])) 56) (jq c (vi 1) λc=>jih a b c d e p (jR q [[jb f 0,jb g 0,jb g 1]])) none) none) none) none) none) none) none) (jq c (vi 1) λc=>jih a b c d e p q)) (jW e λa=>jfJ e a (vi 0) d p q):=hq Tryz.func229
theorem jzP:jfJ a b c d p q=jB c b (ye 3 3 a c λe=>jc 3 e λe=>YV 274 [A.agg [d],jb e 0] λf g=>jc 2 f λ_=>qw g (kF 138 [A.agg [jb e 1,jb e 2]] λf=>(zH (zF (K.at 229) 206) [sv [],sv [],A.sl 2 []] [(0,jb e 0),(1,f)]).bind λe=>jc 3 e λe=>brn (jM ((jv q)+(jv [[jb e 0,jb e 1,jb e 2]])) 56) (jq c (vi 1) λc=>jfJ a b c d p (jR q [[jb e 0,jb e 1,jb e 2]])) none) (jq c (vi 1) λc=>jfJ a b c d p q)) ((jsq q).bind λa=>yE 3 a 0 λa=>kfn true (G 273 [A.agg [A.sl 3 a]]) λb=>qw b (jf (A.tup [A.agg [A.sl 3 []],vb false])) (jf (A.tup [A.agg [A.sl 3 a],vb true]))):=hq Tryz.func229
theorem g23:G 23 [a]=jc 2 a λa=>kF 43 [jH a] λb=>jl b true λ_=>ya b 44 [jH a] λa=>kY b (jy .lss false a (vi 0)) λa=>jQ b a (vb false) λa=>jf a:=gq Tryz.func23
theorem jFw:jsl a=jB a (vi 0) none (yp (vi 0) (vi 0) λb=>yp a b λa=>qk a (vi 0) (kB 0 0 (some (vi 0)) λ_=>kMk 48 a a λa=>brn (jM a 48) (kB (zX (yH a [vb false,sv [],A.sl 2 []])) (zj (yH a [vb false,sv [],A.sl 2 []]) 0) (some (vi 0)) λb=>some (A.top,[A.sl 3 (List.take (kz b 0) (yH a [vb false,sv [],A.sl 2 []]))])) none) (some (A.top,[A.sl 3 []]))):=vq Tryz.func230
theorem jFx:jsm a b p=kB 0 (zj p 0) (some (yB p)) λc=>kB 0 c (some b) λc=>kB 0 c (some a) λ_=>yz a b (some (A.top,[A.sl 3 p])) (kB (zX p) (zj p 0) (some a) λa=>kB (zX p) (zj p 0) none λc=>kB 0 c (some b) λb=>brn (jq2 0 (kz a 0) (yI p (0+b) (kz c b)) p) (kB ((kz a 0)+(zX (yI p (0+b) (kz c b)))) (zj (yt p (0+(kz a 0)) (yI p (0+b) (kz c b))) 0) (some (yB p)) λd=>kB 0 d (some (nA ((kz a 0)+(zX (yI p (0+b) (kz c b)))))) λe=>some (A.top,[A.sl 3 (List.take ((kz a 0)+(zX (yI p (0+b) (kz c b)))) (yt (yt p (0+(kz a 0)) (yI p (0+b) (kz c b))) (0+e) (yH (kz d e) [vb false,sv [],A.sl 2 []])))])) none):=vq Tryz.func231
theorem jFy:jsn a=(jAX a).bind λb=>brn (nz (zX b)) (bth (some (A.top,[A.sl 3 []])) (kRs 3 a λa=>brn (jM (jv a) 48) (some (A.top,[A.sl 3 a])) none)) (kRs 3 a λa=>brn (jM (jv a) 48) (some (A.top,[A.sl 3 a])) none):=vq Tryz.func232
theorem jKX:G 233 [a]=jaR a (vy 65) λb=>jT b a λa=>kY b (jy .leq false a (vy 90)) λa=>jQ b a (vb false) λa=>jf a:=gq Tryz.func233
theorem jKY:G 234 [a,b]=jc 1 a λa=>jc 2 b λb=>jW (jb b 1) λc=>yz c (vi 0) (YV 274 [jX a,jb b 0] λa c=>jc 2 a λa=>Jf c (kF 138 [jH a] λa=>jc 2 a λa=>jf (jH a)) (jCC b)) (jW (jb b 1) λc=>kMk 40 c c λc=>brn (jU (jb b 0)) (brn (jU (jb b 0)) (jW (jb b 1) λd=>jsA (jb b 1) d (vi 0) (jb a 0) (sv []) (jb b 0) (yH c [sv [],A.sl 2 []]) []) none) none):=gq Tryz.func234
theorem jGe:jsA a b c d e f p q=jCM c b a d p e f q:=hq Tryz.func234
theorem jzQ:jsB a b c d e f p q=jCM c b a d q e f p:=hq Tryz.func234
theorem jFz:Q1 a b p=brn (jU a) (brn (jU b) (kF 221 [a] λc=>jl c true λ_=>jl c true λ_=>jT c a λd=>kY c ((G 225 [A.sl 1 p,d]).bind (fin true)) λd=>kY c (Jg .not d) λd=>zJ c d (vb false) (brn (jU a) (brn (jM ((jv p)+(jv [[a]])) 16) (jW b λc=>jec b c (vi 0) (jR p [[a]])) none) none) (jW b λa=>jii b a (vi 0) p)) none) none:=vq Tryz.func235
theorem jqq:jec a b c p=jCN c b a p:=hq Tryz.func235
theorem jzR:jii a b c p=jCN c b a p:=hq Tryz.func235
theorem jFA:jso a p=jB a (vi 0) none ((qB .u64 (yB p)).bind λb=>(qB .u64 a).bind λa=>YV 278 [b,a] λa b=>jgI a (A.val (.int .u64 0)) λa=>jP a b λc=>km a (jy .gtr false c (A.val (.int .u64 9223372036854775807))) λc=>zJ a (vb true) c none ((qB .i64 b).bind λa=>kMk 8 a a λa=>jed (jwQ p (zX (yH a [vi 0]))) (yt (yH a [vi 0]) 0 (jlV p (zX (yH a [vi 0])))) p)):=vq Tryz.func237
theorem jeT:jed a p q=jB a (yB p) (kB (zX p) (zj p 0) none λb=>kB 0 b (some a) λc=>kB (zX p) (zj p 0) (some a) λd=>jq a (jwQ (yI p 0 (kz d 0)) (kz b c)) λa=>jed a (yt p (0+c) (jlV (yI p 0 (kz d 0)) (kz b c))) q) (some (A.top,[A.sl 1 p])):=hq Tryz.func237
theorem jHV:G 238 [a,b,c]=jc 3 a λa=>jc 2 b λb=>jc 2 c λc=>kF 164 [jH b,jH c] λd=>kfn true (G 279 [d,A.fn 280 [A.elt [jb a 0,jb a 1,jb a 2] 0,A.elt [jb b 0,jb b 1] 0,A.elt [jb c 0,jb c 1] 0],A.fn 282 [A.elt [jb a 0,jb a 1,jb a 2] 0,A.elt [jb c 0,jb c 1] 0,A.elt [jb b 0,jb b 1] 0]]) λa=>jf a:=gq Tryz.func238
theorem jKZ:G 239 [a,b]=jW a λc=>jni a b c (vi 0):=gq Tryz.func239
theorem jzS:jni a b c d=jB d c (ye 2 2 a d λe=>(DX.run K (MM K) (.callc b [e] false)).bind λe=>Jf e (jf d) (jq d (vi 1) λd=>jni a b c d)) (jf (vi (- 1))):=hq Tryz.func239
theorem jFB:jdp a b c p=jc 2 a λa=>brn (jU b) (brn (jU c) (jW (jb a 1) λd=>zU d (vi 0) λd=>jl d true λ_=>ya d 197 [jH a] λe=>zJ d e (vb false) ((KF none true false [sv [],A.sl 2 []] (A.mp p) (jb a 0)).bind λd=>kM d 0 λe=>kM d 1 λd=>jc 2 e λe=>(jkT none p (jb a 0) (A.agg [b,c])).bind λa=>YX d λd=>jl d false λ_=>jl d false λ_=>yD d 164 [jH e,A.agg [b,c]] λb=>jQ d (vb true) b λb=>some (A.top,[b,A.sl 128 a])) (JQ (jb a 0) b λd=>jl d false λ_=>jP d (jb a 1) λe=>km d (kP e) λe=>jl d false λ_=>jP d c λf=>km d (kP f) λf=>km d (jy .neq false e f) λe=>zJ d (vb true) e (some (A.top,[vb false,A.sl 128 p])) (jW (jb a 1) λd=>jbm (jb a 1) d (vi 0) b c p))) none) none:=vq Tryz.func240
theorem jqr:jbm a b c d e p=jB c b (ye 2 2 a c λf=>jc 2 f λf=>ye 2 2 e c λg=>(Zu (jb f 0) (jb f 1) g p).bind λf=>yY f 0 λg=>yE 128 f 1 λf=>qw g (some (A.top,[vb false,A.sl 128 f])) (jq c (vi 1) λc=>jbm a b c d e f)) (some (A.top,[vb true,A.sl 128 p])):=hq Tryz.func240
theorem jFC:Zu a b c p=brn (jU a) (brn (jU b) (jc 2 c λc=>jW b λd=>zU d (vi 0) λd=>jl d true λ_=>ya d 197 [A.agg [a,b]] λe=>zJ d e (vb false) ((KF none true false [sv [],A.sl 2 []] (A.mp p) a).bind λb=>kM b 0 λd=>kM b 1 λb=>jc 2 d λd=>(jkT none p a (jH c)).bind λa=>YX b λb=>jl b false λ_=>jl b false λ_=>yD b 164 [jH d,jH c] λc=>jQ b (vb true) c λb=>some (A.top,[b,A.sl 128 a])) (JQ a (jb c 0) λa=>jl a false λ_=>jP a b λd=>km a (kP d) λd=>jl a false λ_=>jP a (jb c 1) λe=>km a (kP e) λe=>km a (jy .neq false d e) λd=>zJ a (vb true) d (some (A.top,[vb false,A.sl 128 p])) (jW b λa=>jbn b a (vi 0) (jb c 0) (jb c 1) p))) none) none:=vq Tryz.func240
theorem jqs:jbn a b c d e p=jB c b (ye 2 2 a c λf=>jc 2 f λf=>ye 2 2 e c λg=>(Zu (jb f 0) (jb f 1) g p).bind λf=>yY f 0 λg=>yE 128 f 1 λf=>qw g (some (A.top,[vb false,A.sl 128 f])) (jq c (vi 1) λc=>jbn a b c d e f)) (some (A.top,[vb true,A.sl 128 p])):=hq Tryz.func240
theorem jK0:G 241 [a,b]=jc 2 a λa=>(KF none true false [sv [],A.sl 2 []] b (jb a 0)).bind λc=>kM c 0 λd=>kM c 1 λc=>jc 2 d λd=>jl c true λ_=>jT c (jb a 1) λe=>kY c (kP e) λe=>kY c (jy .eql false e (vi 0)) λe=>zJ c e (vb false) (kF 138 [jH d] λa=>jc 2 a λa=>jf (jH a)) (brn (jU (jb a 0)) (brn (jU (jb a 0)) (jW (jb a 1) λc=>jnj b (jb a 1) c (vi 0) (sv []) (jb a 0) [] []) none) none):=gq Tryz.func241
theorem js9:jnj a b c d e f p q=jB d c (ye 2 2 b d λg=>jc 2 g λg=>(G 241 [jH g,a]).bind λg=>zD g λg=>jc 2 g λg=>brn (jM ((jv q)+(jv [[jb g 0,jb g 1]])) 40) (jq d (vi 1) λd=>jnj a b c d e f p (jR q [[jb g 0,jb g 1]])) none) (brn (jU f) (jf (A.agg [f,A.sl 2 q])) none):=hq Tryz.func241
theorem jK1:G 242 [a]=jc 2 a λa=>jW (jb a 1) λb=>jnk (vi 1) (jb a 1) b (vi 0):=gq Tryz.func242
theorem jta:jnk a b c d=jB d c (ye 2 2 b d λe=>jc 2 e λe=>qk a (vi 30) (jf a) (kF 242 [jH e] λe=>jq a e λa=>jq d (vi 1) λd=>jnk a b c d)) (jf a):=hq Tryz.func242
theorem jK2:G 243 [a]=jc 2 a λa=>jW (jb a 1) λb=>jnl (vi 0) (jb a 1) b (vi 0):=gq Tryz.func243
theorem jzT:jnl a b c d=jB d c (ye 2 2 b d λe=>jc 2 e λe=>kF 243 [jH e] λe=>(jtz a e).bind λa=>jq d (vi 1) λd=>jnl a b c d) (jq a (vi 1) λa=>jf a):=hq Tryz.func243
theorem jK3:G 244 [a]=jc 1 a λa=>kF 126 [jX a] λb=>jv3 b a:=gq Tryz.func244
theorem jK4:G 245 [a]=jW a λb=>jnm a b (vi 0) [] []:=gq Tryz.func245
theorem jzU:jnm a b c p q=jB c b (ye 3 3 a c λd=>jc 3 d λd=>kF 110 [Yq d] λd=>jc 3 d λd=>brn (jM ((jv q)+(jv [[jb d 0,jb d 1,jb d 2]])) 48) (jq c (vi 1) λc=>jnm a b c p (jR q [[jb d 0,jb d 1,jb d 2]])) none) ((jsr q).bind λa=>yE 3 a 0 λa=>(jss a).bind λa=>yE 3 a 0 λa=>jf (A.agg [A.sl 3 a])):=hq Tryz.func245
theorem jK5:G 246 [a,b]=jW a λc=>jnn b a c (vi 0) []:=gq Tryz.func246
theorem jzV:jnn a b c d p=jB d c (JO 1 b d λe=>kF 156 [d] λf=>jq a f λf=>(jkT none p e f).bind λe=>jq d (vi 1) λd=>jnn a b c d e) (jf (A.mp p)):=hq Tryz.func246
theorem jK6:G 247 [a,b,c]=jc 2 a λa=>kF 168 [jb a 0] λd=>Jf d (jno b c (vi 0) (jb a 0) (jb a 1) (sv []) []) (brn (jU (jb a 0)) (brn (jU (jb a 0)) (jnp b c (vi 0) (jb a 0) (jb a 1) (sv []) (jb a 0) [] []) none) none):=gq Tryz.func247
theorem jzW:jno a b c d e f p=JP c a (JO 1 a c λg=>yz g d (kF 115 [c] λa=>jq b a λa=>jCO a) (jq c (vi 1) λc=>jno a b c d e f p)) (jCO d):=hq Tryz.func247
theorem jzX:jnp a b c d e f g p q=JP c e (ye 2 2 e c λh=>kF 247 [h,a,b] λh=>jc 2 h λh=>brn (jM ((jv q)+(jv [[jb h 0,jb h 1]])) 40) (jq c (vi 1) λc=>jnp a b c d e f g p (jR q [[jb h 0,jb h 1]])) none) (brn (jU g) (jf (A.agg [g,A.sl 2 q])) none):=hq Tryz.func247
theorem jK7:G 248 [a]=jfK a (vi 0) [] []:=gq Tryz.func248
theorem jzY:jfK a b p q=JP b a (jnq a b (vi 0) p q) (jf (A.agg [A.sl 3 p])):=hq Tryz.func248
theorem jzZ:jnq a b c p q=KE c (yB p) λd=>jl d true λ_=>jT d c λe=>jl d true λf=>brn f (qZ (jv p) e λe=>kY d (ZJ p e 0 3) λe=>jCP d a b e c p q) (kY d (kC 3 (A.val undef)) λe=>jCP d a b e c p q):=hq Tryz.func248
theorem jK8:G 249 [a]=jc 1 a λa=>jnr (vi 0) (jb a 0):=gq Tryz.func249
theorem jz0:jnr a b=JP a b (ye 3 3 b a λc=>jc 3 c λc=>Q0 168 [jb c 0] λd=>jl d false λ_=>jl d false λ_=>yD d 143 [A.agg [jb c 1,jb c 2]] λe=>km d (Jg .not e) λe=>jQ d (vb true) e λd=>jl d false λ_=>jl d false λ_=>jP d (jb c 1) λe=>jl d false λ_=>jP d (jb c 0) λf=>km d (jy .eql false e f) λe=>jQ d (vb true) e λd=>jP d a λe=>km d (jy .gtr false e (vi 0)) λe=>jP d e λe=>jl e true λ_=>jT e b λf=>jT e a λg=>kY e (jy .sub false g (vi 1)) λg=>kY e (jk 3 f g) λf=>kY e (qe f 0) λf=>kY e (j9 f) λf=>jl e true λ_=>jT e (jb c 0) λc=>kY e (jy .geq false f c) λc=>km d (Zf e c (vb false)) λc=>zJ d (vb true) c (jf (vb false)) (jq a (vi 1) λa=>jnr a b)) (jW b λa=>jdb a (vi 12) λa=>jf a):=hq Tryz.func249
theorem jK9:G 250 [a]=jc 2 a λa=>kF 143 [jH a] λb=>jl b false λ_=>yD b 112 [jH a] λa=>jQ b (vb true) a λa=>jf a:=gq Tryz.func250
theorem jLa:G 251 [a]=jc 2 a λa=>kF 285 [A.sl 1 [],jH a] λa=>jf a:=gq Tryz.func251
theorem jLb:G 252 [a,b]=jc 1 a λa=>jc 1 b λb=>Q0 249 [jX a] λc=>jl c false λ_=>yD c 249 [jX b] λd=>km c (Jg .not d) λd=>zJ c (vb true) d (jf (A.tup [A.agg [A.sl 3 []],vb false])) (kF 286 [jX a,jX b] λa=>jc 1 a λa=>kF 249 [jX a] λb=>jv3 b a):=gq Tryz.func252
theorem jFD:jsp a b c p=brn (jU b) (brn (jU c) (yz b a (some (A.top,[A.sl 3 p])) (jij a (vi 0) b c p [])) none) none:=vq Tryz.func253
theorem jz1:jij a b c d p q=KE b (yB p) λe=>jl e true λ_=>jl e true λ_=>jT e b λf=>jl e true λg=>brn g (qZ (jv p) f λf=>jl e true λ_=>kY e (ZK p f 0) λf=>jCR e a f b c d p q) (kY e (qe (A.val undef) 0) λf=>kY e (j9 f) λf=>jCR e a f b c d p q):=hq Tryz.func253
theorem jFE:jhY a b p=jc 2 b λb=>yz (jb b 0) a (some (A.top,[A.sl 3 p])) (jbo a (vi 0) (jb b 0) (jb b 1) p []):=vq Tryz.func253
theorem ji9:jbo a b c d p q=KE b (yB p) λe=>jl e true λ_=>jl e true λ_=>jT e b λf=>jl e true λg=>brn g (qZ (jv p) f λf=>jl e true λ_=>kY e (ZK p f 0) λf=>jCT e a f b c d p q) (kY e (qe (A.val undef) 0) λf=>kY e (j9 f) λf=>jCT e a f b c d p q):=hq Tryz.func253
theorem jHW:G 254 [a,b]=jik a b (vi 0):=gq Tryz.func254
theorem jog:jik a b c=jW a λd=>KE c d λd=>jT d a λe=>jT d c λf=>kY d (jk 1 e f) λe=>kY d (j9 e) λe=>jT d b λf=>kY d (jy .lss false e f) λe=>zJ d e (vb false) (jq c (vi 1) λc=>jik a b c) (jW a λd=>KE c d λd=>jT d a λe=>jT d c λf=>kY d (jk 1 e f) λe=>kY d (j9 e) λe=>jT d b λf=>kY d (jy .eql false e f) λe=>zJ d e (vb false) (jf a) (kSl 1 a none (some c) λd=>kRs 1 d λd=>brn (jM (jv d) 16) (brn (jU b) (brn (jM ((jv d)+(jv [[b]])) 16) (kSl 1 a (some c) none λa=>kRs 1 a λa=>brn (jM ((jv (jR d [[b]]))+(jv a)) 16) (jf (A.sl 1 (jR (jR d [[b]]) a))) none) none) none) none)):=hq Tryz.func254
theorem jLc:G 255 [a]=jc 3 a λa=>jW (jb a 0) λb=>Q0 22 [b,vi 1,vi 12] λb=>jl b false λ_=>jP b (jb a 1) λc=>km b (kP c) λc=>jl b false λ_=>jP b (jb a 0) λd=>km b (kP d) λd=>km b (jy .neq false c d) λc=>jQ b (vb true) c λb=>jl b false λ_=>jP b (jb a 2) λc=>yD b 22 [c,vi 1,vi 100] λc=>km b (Jg .not c) λc=>zJ b (vb true) c (jf (vb false)) (jns (vi 0) (jb a 0) (jb a 1) (jb a 2)):=gq Tryz.func255
theorem jz2:jns a b c d=JP a b (JO 1 b a λe=>Q0 142 [e] λe=>jl e false λ_=>jP e b λf=>jP e a λg=>km e (yb 1 f none (some g)) λf=>jl e false λ_=>jP e b λg=>jP e a λh=>km e (jk 1 g h) λg=>km e (j9 g) λg=>yD e 171 [f,g] λf=>jQ e (vb true) f λe=>jl e false λ_=>jP e c λf=>jP e a λg=>km e (jk 1 f g) λf=>km e (j9 f) λf=>jl e false λ_=>jP e d λg=>yD e 22 [f,g,vi 100] λf=>km e (Jg .not f) λf=>zJ e (vb true) f (jf (vb false)) (jq a (vi 1) λa=>jns a b c d)) (jf (vb true)):=hq Tryz.func255
theorem jLd:G 256 [a,b]=jc 3 a λa=>jc 2 b λb=>kF 143 [jH b] λc=>jl c true λ_=>jl c true λ_=>ya c 287 [Yq a,jH b] λa=>jQ c a (vb false) λa=>jf a:=gq Tryz.func256
theorem jLe:G 257 [a,b,c]=Jf a (jf (vi 1)) (Jf b (jf (vi 2)) (Jf c (jf (vi 3)) (jf (vi 0)))):=gq Tryz.func257
theorem jLf:G 258 [a,b,c]=jc 3 a λa=>jc 2 b λb=>jc 2 c λc=>kF 288 [jH b,jH c] λd=>qw d (jf (vb false)) (kF 289 [Yq a,jH b] λd=>kF 289 [Yq a,jH c] λe=>zV d e (jgI d e λa=>jf a) (kF 168 [jb b 0] λd=>jl d false λ_=>jP d (jb c 0) λe=>yD d 168 [e] λe=>zJ d (vb true) e (jf (vb false)) (kF 290 [Yq a,jH b,jH c] λd=>zV d (vi 0) (jgI d (vi 0) λa=>jf a) (kF 291 [jH b,jH c] λd=>jaR d (vi 0) λe=>jl e true λ_=>jl e true λ_=>jT e (jb b 1) λb=>jT e d λf=>kY e (jk 2 b f) λb=>kY e (kC 2 b) λb=>jl e true λ_=>jT e (jb c 1) λc=>jT e d λd=>kY e (jk 2 c d) λc=>kY e (kC 2 c) λc=>ya e 258 [Yq a,b,c] λa=>jQ e a (vb false) λa=>jf a)))):=gq Tryz.func258
theorem jLg:G 259 [a,b,c]=jc 2 a λa=>(G 292 [jH a,A.sl 1 []]).bind λd=>zD d λd=>jfL b c d (vi 0) (jb a 0) (jb a 1) (sv []) []:=gq Tryz.func259
theorem jtb:jfL a b c d e f g p=JP d c (JO 1 c d λh=>jW h λh=>zU h (vi 0) λh=>jT h b λi=>kY h (Jg .not i) λi=>zJ h i (vb false) (jq d (vi 1) λd=>jfL a b c d e f g p) (JO 1 c d λh=>YV 177 [A.agg [e,f],h] λh _=>jc 2 h λh=>jfM a b c d (vi 0) e f g (jb h 0) (jb h 1) p)) (brn (jU e) (brn (jU f) (jf (A.tup [A.agg [e,f],vb false])) none) none):=hq Tryz.func259
theorem jz3:jfM a b c d e f g h i j p=JP e a (YW 2 a e 1 λk=>ye 2 2 k (vi 0) λk=>(jhZ k i j []).bind λk=>yY k 0 λl=>yE 259 k 1 λk=>Jf l (Jf l (JO 1 c d λb=>(G 294 [A.sl 3 k]).bind λc=>zD c λc=>YW 2 a e 1 λa=>ye 2 2 a (vi 1) λa=>(G 178 [c,a]).bind λa=>zD a λa=>kF 180 [A.agg [f,g],b,a] λa=>jc 2 a λa=>jf (A.tup [jH a,vb true])) (jq e (vi 1) λe=>jfM a b c d e f g h i j p)) (Jf l (JO 1 c d λ_=>none) (jq e (vi 1) λe=>jfM a b c d e f g h i j p))) (jq d (vi 1) λd=>jfL a b c d f g h p):=hq Tryz.func259
theorem jLh:G 260 [a]=kLS a λb=>jil a b (vi 0):=gq Tryz.func260
theorem joh:jil a b c=jB c b (zU c (vi 0) λd=>jT d a λe=>jT d c λf=>kY d (yr e f) λe=>ya d 233 [e] λe=>kY d (Jg .not e) λe=>jQ d e (vb false) λd=>jP d c λe=>km d (jy .gtr false e (vi 0)) λe=>jP d e λe=>jT e a λf=>jT e c λg=>kY e (yr f g) λf=>ya e 262 [f] λf=>kY e (Jg .not f) λf=>km d (Zf e f (vb false)) λe=>jP d e λe=>jT e a λf=>jT e c λg=>kY e (yr f g) λf=>ya e 263 [f] λf=>kY e (Jg .not f) λf=>km d (Zf e f (vb false)) λe=>zJ d (vb true) e (jf (vb false)) (jq c (vi 1) λc=>jil a b c)) (kLS a λa=>kF 47 [a,vi 1,vi 4] λa=>jf a):=hq Tryz.func260
theorem jLi:G 261 [a]=jc 2 a λa=>Q0 220 [jH a] λa=>jf a:=gq Tryz.func261
theorem jLj:G 262 [a]=jaR a (vy 97) λb=>jT b a λa=>kY b (jy .leq false a (vy 122)) λa=>jQ b a (vb false) λa=>jf a:=gq Tryz.func262
theorem jLk:G 263 [a]=jaR a (vy 48) λb=>jT b a λa=>kY b (jy .leq false a (vy 57)) λa=>jQ b a (vb false) λa=>jf a:=gq Tryz.func263
theorem jLl:G 264 []=jf (A.sl 1 [[sv [116,114,117,101]],[sv [102,97,108,115,101]],[sv [116,114,117,116,104]],[sv [98,111,116,104]],[sv [101,105,116,104,101,114]],[sv [105,102]],[sv [97,108,108]],[sv [115,111,109,101]]]):=gq Tryz.func264
theorem jLm:G 266 [a,b]=jW a λc=>jnt a b c (vi 0):=gq Tryz.func266
theorem jz4:jnt a b c d=jB d c (JO 1 a d λe=>yz b e (jf d) (jq d (vi 1) λd=>jnt a b c d)) (jf (vi (- 1))):=hq Tryz.func266
theorem g27:G 27 [a,b]=jc 2 a λa=>jW (jb a 1) λc=>yp c (vi 1) λc=>kF 47 [b,vi 0,c] λb=>jl b true λ_=>ya b 37 [jH a] λa=>jQ b a (vb false) λa=>jf a:=gq Tryz.func27
theorem jLo:G 271 [a,b]=jc 2 a λa=>brn (jU (jb a 0)) (brn (jU (jb a 0)) ((KF none true true [sv []] b (jb a 0)).bind λc=>kM c 0 λd=>kM c 1 λc=>jl c true λ_=>jT c (jb a 1) λe=>kY c (kP e) λe=>kY c (jy .eql false e (vi 0)) λe=>zJ c e (vb false) (brn (jU d) (jW (jb a 1) λc=>jfN b (jb a 1) c (vi 0) (sv []) d [] []) none) (jW (jb a 1) λc=>jfN b (jb a 1) c (vi 0) (sv []) (jb a 0) [] [])) none) none:=gq Tryz.func271
theorem jtc:jfN a b c d e f p q=jB d c (ye 2 2 b d λg=>jc 2 g λg=>kF 271 [jH g,a] λg=>jc 2 g λg=>brn (jM ((jv q)+(jv [[jb g 0,jb g 1]])) 40) (jq d (vi 1) λd=>jfN a b c d e f p (jR q [[jb g 0,jb g 1]])) none) (brn (jU f) (jf (A.agg [f,A.sl 2 q])) none):=hq Tryz.func271
theorem jLp:G 272 [a,b]=jc 2 b λb=>kF 299 [jH b,a] λa=>jgI a (vi 0) λa=>jf a:=gq Tryz.func272
theorem jLq:G 273 [a]=jc 1 a λa=>jW (jb a 0) λb=>jnu (jb a 0) b (vi 0) (jb a 0):=gq Tryz.func273
theorem jz5:jnu a b c d=jB c b (ye 3 3 a c λe=>jc 3 e λe=>Q0 260 [jb e 0] λf=>jP f c λg=>km f (jy .gtr false g (vi 0)) λg=>jP f g λg=>jl g true λ_=>jT g (jb e 0) λh=>jl g true λ_=>jT g d λi=>jT g c λj=>kY g (jy .sub false j (vi 1)) λj=>kY g (jk 3 i j) λi=>kY g (qe i 0) λi=>kY g (j9 i) λi=>kY g (jy .leq false h i) λh=>km f (Zf g h (vb false)) λg=>jQ f (vb true) g λf=>jl f false λ_=>jl f false λ_=>yD f 222 [A.agg [jb e 1,jb e 2]] λg=>km f (Jg .not g) λg=>jQ f (vb true) g λf=>jl f false λ_=>jl f false λ_=>jP f (jb e 1) λg=>jl f false λ_=>jP f (jb e 0) λe=>km f (jy .eql false g e) λe=>zJ f (vb true) e (jf (vb false)) (jq c (vi 1) λc=>jnu a b c d)) (jW d λa=>jdb a (vi 12) λa=>jf a):=hq Tryz.func273
theorem jLr:G 274 [a,b]=jc 1 a λa=>YV 300 [jb a 0,b,A.fn 301 []] λb c=>qw c (jf (A.tup [A.agg [sv [],A.sl 2 []],vb false])) (Je 2 3 (jb a 0) b 1 λa=>jc 2 a λa=>jf (A.tup [jH a,vb true])):=gq Tryz.func274
theorem jLt:G 278 [a,b]=Jf (vb false) ((qB .u32 a).bind λa=>(qB .u32 b).bind λb=>YV 312 [a,b] λa b=>(qB .u64 a).bind λa=>(qB .u64 b).bind λb=>jf (A.tup [a,b])) (YV 313 [a,b] λa b=>jf (A.tup [a,b])):=gq Tryz.func278
theorem jLu:G 279 [a,b,c]=Jf a (jf (vi 1)) ((DX.run K (MM K) (.callc b [] false)).bind λa=>Jf a (jf (vi 2)) ((DX.run K (MM K) (.callc c [] false)).bind λa=>Jf a (jf (vi 3)) (jf (vi 0)))):=gq Tryz.func279
theorem jHY:G 280 [a,b,c]=kLN 3 a λa=>kLN 2 b λb=>kLN 2 c λc=>kF 281 [a,b,c] λa=>jf a:=gq Tryz.func280
theorem jHZ:G 281 [a,b,c]=jc 3 a λa=>jc 2 b λb=>jc 2 c λc=>kF 314 [jH c] λd=>jW d λe=>jim d e (vi 0) (jb a 0) (jb a 1) (jb a 2) (jb b 0) (jb b 1) (jb c 0) (jb c 1):=gq Tryz.func281
theorem jtd:jim a b c d e f g h i j=jB c b (JO 1 a c λk=>kF 299 [A.agg [g,h],k] λl=>kF 299 [A.agg [i,j],k] λk=>jB l k (jf (vb false)) (jq c (vi 1) λc=>jim a b c d e f g h i j)) (kF 315 [A.agg [d,e,f],A.agg [g,h]] λa=>kF 315 [A.agg [d,e,f],A.agg [i,j]] λb=>JQ a b λc=>jl c false λ_=>yD c 197 [A.agg [g,h]] λk=>jQ c (vb true) k λc=>jl c false λ_=>yD c 197 [A.agg [i,j]] λk=>zJ c (vb true) k (jgI a b λa=>jf a) (kF 316 [A.agg [d,e,f],A.agg [i,j],A.agg [g,h]] λa=>Jf a (jf (vb true)) (kF 317 [A.agg [g,h],A.agg [i,j]] λa=>kM a 0 λb=>kM a 1 λc=>kM a 2 λa=>jc 2 b λb=>jc 2 c λc=>jl a true λ_=>jl a true λ_=>jl a true λ_=>ya a 281 [A.agg [d,e,f],jH b,jH c] λb=>jQ a b (vb false) λa=>jf a))):=hq Tryz.func281
theorem jH0:G 282 [a,b,c]=kLN 3 a λa=>kLN 2 b λb=>kLN 2 c λc=>kF 281 [a,b,c] λa=>jf a:=gq Tryz.func282
theorem jFH:jss p=jB (yB p) (vi 2) (some (A.top,[A.sl 3 p])) (jef (vi 1) p):=vq Tryz.func284
theorem jqt:jef a p=jB a (yB p) (qZ (jv p) a λb=>kRN p b 0 3 λb=>yp a (vi 1) λc=>qZ (jv p) c λc=>kRN p c 0 3 λc=>kF 137 [b,c] λb=>Jf b (kB (zX p) (zj p 0) none λb=>kB 0 b (some a) λc=>jbp a (nA (0+c)) (nA (kz b c)) (vi 1) p) (jq a (vi 1) λa=>jef a p)) (some (A.top,[A.sl 3 p])):=hq Tryz.func284
theorem jqu:jbp a b c d p=jB d (nA (zq c)) (qZ (zq c) d λe=>kRN p ((zq b)+e) 0 3 λe=>yp d (vi 1) λf=>qZ (zq c) f λf=>kRN p ((zq b)+f) 0 3 λf=>kF 137 [e,f] λe=>qw e (qZ (zq c) d λe=>kRN p ((zq b)+e) 0 3 λe=>qZ (jv p) a λf=>jc 3 e λe=>kRG p f λg=>jq a (vi 1) λa=>jq d (vi 1) λd=>jbp a (nA (zq b)) (nA (zq c)) d (kX p f (jS g 0 [jb e 0,jb e 1,jb e 2]))) (jq d (vi 1) λd=>jbp a (nA (zq b)) (nA (zq c)) d p)) (kB (zX p) (zj p 0) none λb=>kB 0 b (some a) λc=>kB (zX (yt p (0+c) (yH (kz b c) [vb false,sv [],A.sl 2 []]))) (zj (yt p (0+c) (yH (kz b c) [vb false,sv [],A.sl 2 []])) 0) (some a) λa=>some (A.top,[A.sl 3 (List.take (kz a 0) (yt p (0+c) (yH (kz b c) [vb false,sv [],A.sl 2 []])))])):=hq Tryz.func284
theorem jLv:G 285 [a,b]=jc 2 b λb=>kF 168 [jb b 0] λc=>Jf c (kF 254 [a,jb b 0] λa=>jf a) (jnv a (vi 0) (jb b 0) (jb b 1)):=gq Tryz.func285
theorem jz6:jnv a b c d=JP b d (ye 2 2 d b λe=>kF 285 [a,e] λa=>jq b (vi 1) λb=>jnv a b c d) (jf a):=hq Tryz.func285
theorem jLw:G 286 [a,b]=jc 1 a λa=>jc 1 b λb=>jnw (vi 0) (jb a 0) (jb b 0) [] []:=gq Tryz.func286
theorem jz7:jnw a b c p q=JP a b (YW 3 b a 0 λd=>Je 2 3 b a 1 λe=>(G 178 [A.agg [c],e]).bind λe=>zD e λe=>(jhY d e q).bind λd=>yE 3 d 0 λd=>jq a (vi 1) λa=>jnw a b c p d) (jin (vi 0) b c p q):=hq Tryz.func286
theorem jz8:jin a b c p q=JP a c (YW 3 c a 0 λd=>kF 215 [A.agg [b],d] λd=>jB d (vi 0) (YW 3 c a 0 λd=>Je 2 3 c a 1 λe=>(jhY d e q).bind λd=>yE 3 d 0 λd=>jq a (vi 1) λa=>jin a b c p d) (jq a (vi 1) λa=>jin a b c p q)) (jf (A.agg [A.sl 3 q])):=hq Tryz.func286
theorem jLx:G 287 [a,b]=jc 3 a λa=>jc 2 b λb=>Q0 168 [jb b 0] λc=>jl c true λ_=>jl c true λ_=>jT c (jb b 0) λd=>ya c 319 [Yq a,d] λd=>kY c (jy .lss false d (vi 0)) λd=>zJ c d (vb false) (jf (vb false)) (jnx (vi 0) (jb a 0) (jb a 1) (jb a 2) (jb b 0) (jb b 1)):=gq Tryz.func287
theorem jz9:jnx a b c d e f=JP a f (ye 2 2 f a λg=>kF 287 [A.agg [b,c,d],g] λg=>qw g (jf (vb false)) (jq a (vi 1) λa=>jnx a b c d e f)) (jf (vb true)):=hq Tryz.func287
theorem jLy:G 288 [a,b]=jc 2 a λa=>jc 2 b λb=>kF 251 [jH b] λc=>jny c (vi 0) (jb a 0) (jb a 1) (jb b 0) (jb b 1):=gq Tryz.func288
theorem jAa:jny a b c d e f=JP b a (JO 1 a b λg=>kF 320 [A.agg [c,d],g] λg=>JO 1 a b λh=>kF 320 [A.agg [e,f],h] λh=>jB g h (jf (vb false)) (jq b (vi 1) λb=>jny a b c d e f)) (jf (vb true)):=hq Tryz.func288
theorem jLz:G 289 [a,b]=jc 3 a λa=>jc 2 b λb=>kF 168 [jb b 0] λc=>qw c (kF 319 [Yq a,jb b 0] λc=>JO 1 (jb a 1) c λc=>jio c (vi 0) (jb a 0) (jb a 1) (jb a 2) (jb b 0) (jb b 1)) (jio (jb a 2) (vi 0) (jb a 0) (jb a 1) (jb a 2) (jb b 0) (jb b 1)):=gq Tryz.func289
theorem jAb:jio a b c d e f g=JP b g (ye 2 2 g b λh=>kF 289 [A.agg [c,d,e],h] λh=>jq a h λa=>jq b (vi 1) λb=>jio a b c d e f g) (jf a):=hq Tryz.func289
theorem jLA:G 290 [a,b,c]=jc 3 a λa=>jc 2 b λb=>jc 2 c λc=>kF 319 [Yq a,jb b 0] λd=>kF 319 [Yq a,jb c 0] λa=>yz d a (jW (jb b 1) λa=>jW (jb c 1) λb=>jB a b (jf (vi (- 1))) (qk a b (jf (vi 1)) (jf (vi 0)))) (jB d a (jf (vi (- 1))) (qk d a (jf (vi 1)) (jf (vi 0)))):=gq Tryz.func290
theorem jLB:G 291 [a,b]=jc 2 a λa=>jc 2 b λb=>jip (vi 0) (jb a 0) (jb a 1) (jb b 0) (jb b 1):=gq Tryz.func291
theorem jAc:jip a b c d e=JP a c (ye 2 2 c a λf=>ye 2 2 e a λg=>kF 121 [f,g] λf=>qw f (jf a) (jq a (vi 1) λa=>jip a b c d e)) (jf (vi (- 1))):=hq Tryz.func291
theorem jLC:G 292 [a,b]=jc 2 a λa=>jnz b (vi 0) (jb a 0) (jb a 1) []:=gq Tryz.func292
theorem jAd:jnz a b c d p=JP b d (ye 2 2 d b λe=>(juf a).bind λf=>yE 1 f 0 λf=>brn (jU b) (brn (jM ((jv f)+(jv [[b]])) 8) ((G 292 [e,A.sl 1 (jR f [[b]])]).bind λe=>zD e λe=>kRs 1 e λe=>brn (jM ((jv p)+(jv e)) 24) (jq b (vi 1) λb=>jnz a b c d (jR p e)) none) none) none) ((juf a).bind λa=>yE 1 a 0 λa=>brn (jM ((jv p)+(jv [[A.sl 1 a]])) 24) (jf (A.sl 1 (jR p [[A.sl 1 a]]))) none):=hq Tryz.func292
theorem jFI:jhZ a b c p=jc 2 a λa=>brn (jU b) (brn (jU c) (kF 168 [jb a 0] λd=>Jf d (jbq (vi 0) (jb a 0) (jb a 1) b c p) (JQ (jb a 0) b λd=>jl d false λ_=>jP d (jb a 1) λe=>km d (kP e) λe=>jl d false λ_=>jP d c λf=>km d (kP f) λf=>km d (jy .neq false e f) λe=>zJ d (vb true) e (some (A.top,[vb false,A.sl 259 p])) (jeg (vi 0) (jb a 0) (jb a 1) b c p))) none) none:=vq Tryz.func293
theorem jqv:jbq a b c d e p=jB a (yB p) (qZ (jv p) a λf=>kRP p f 0 λf=>yz f b (jCU p a d e) (jq a (vi 1) λa=>jbq a b c d e p)) (jCV b d e p):=hq Tryz.func293
theorem jAe:jeg a b c d e p=jCW a c e p b d:=hq Tryz.func293
theorem jja:jeh a b c d e p=jCW a c e p b d:=hq Tryz.func293
theorem jLD:G 294 [a]=jnA a (vi 0) [] []:=gq Tryz.func294
theorem jAg:jnA a b p q=JP b a (YW 3 a b 0 λc=>Je 2 3 a b 1 λd=>(jhY c d q).bind λc=>yE 3 c 0 λc=>jq b (vi 1) λb=>jnA a b p c) (jf (A.agg [A.sl 3 q])):=hq Tryz.func294
theorem jLE:G 299 [a,b]=jc 2 a λa=>yz (jb a 0) b (jW (jb a 1) λc=>jiq b (vi 1) (jb a 1) c (vi 0)) (jW (jb a 1) λc=>jiq b (vi 0) (jb a 1) c (vi 0)):=gq Tryz.func299
theorem jAh:jiq a b c d e=jB e d (ye 2 2 c e λf=>jc 2 f λf=>kF 299 [jH f,a] λf=>jq b f λb=>jq e (vi 1) λe=>jiq a b c d e) (jf b):=hq Tryz.func299
theorem jLF:G 300 [a,b,c]=jW a λd=>jir a b c d (vi 0) d:=gq Tryz.func300
theorem jAj:jir a b c d e f=jB e f (jq e f λg=>(qB .u64 g).bind λg=>jgJ g (A.val (.int .u64 1)) λg=>(qB .i64 g).bind λg=>ye 3 3 a g λh=>(DX.run K (MM K) (.callc c [h,b] false)).bind λh=>jB h (vi 0) (jq g (vi 1) λe=>jir a b c d e f) (jir a b c d e g)) (KE e d λd=>jT d c λc=>jT d a λa=>jT d e λf=>kY d (jk 3 a f) λa=>kY d (kC 3 a) λa=>jT d b λb=>kY d (DX.run K (MM K) (.callc c [a,b] false)) λa=>kY d (jy .eql false a (vi 0)) λa=>jQ d a (vb false) λa=>jf (A.tup [e,a])):=hq Tryz.func300
theorem jLG:G 301 [a,b]=jc 3 a λa=>kF 223 [jb a 0,b] λa=>jf a:=gq Tryz.func301
theorem jLH:G 313 [a,b]=(jy .and false a (A.val (.int .u64 4294967295))).bind λc=>jgJ a (A.val (.int .u64 32)) λd=>(jy .and false b (A.val (.int .u64 4294967295))).bind λe=>jgJ b (A.val (.int .u64 32)) λf=>ji5 c e λg=>ji5 d e λe=>jgJ g (A.val (.int .u64 32)) λg=>jq e g λe=>(jy .and false e (A.val (.int .u64 4294967295))).bind λg=>jgJ e (A.val (.int .u64 32)) λe=>ji5 c f λc=>jq g c λc=>ji5 d f λd=>jq d e λd=>jgJ c (A.val (.int .u64 32)) λc=>jq d c λc=>ji5 a b λa=>jf (A.tup [c,a]):=gq Tryz.func313
theorem jLI:G 314 [a]=jc 2 a λa=>(jbb (jb a 0) (jb a 1) []).bind λa=>yE 1 a 0 λa=>(jhX a).bind λa=>yE 1 a 0 λa=>jf (A.sl 1 a):=gq Tryz.func314
theorem jLJ:G 315 [a,b]=jc 3 a λa=>jc 2 b λb=>kF 197 [jH b] λc=>Jf c (jf (jb a 2)) (kF 266 [jb a 0,jb b 0] λc=>JO 1 (jb a 1) c λc=>jW (jb b 1) λd=>jnB c (jb b 1) d (vi 0) (jb a 0) (jb a 1) (jb a 2)):=gq Tryz.func315
theorem jAk:jnB a b c d e f g=jB d c (ye 2 2 b d λh=>jc 2 h λh=>kF 315 [A.agg [e,f,g],jH h] λh=>jq a h λa=>jq d (vi 1) λd=>jnB a b c d e f g) (jf a):=hq Tryz.func315
theorem jLK:G 316 [a,b,c]=jc 3 a λa=>jc 2 b λb=>jc 2 c λc=>kF 266 [jb a 0,jb b 0] λd=>kF 266 [jb a 0,jb c 0] λa=>KE d a λe=>jP e d λd=>jP e a λa=>km e (jy .eql false d a) λa=>jP e a λa=>jl a true λ_=>jT a (jb b 1) λb=>kY a (kP b) λb=>jl a true λ_=>jT a (jb c 1) λc=>kY a (kP c) λc=>kY a (jy .lss false b c) λb=>km e (Zf a b (vb false)) λa=>jQ e (vb true) a λa=>jf a:=gq Tryz.func316
theorem jH1:G 317 [a,b]=jc 2 a λa=>jc 2 b λb=>JQ (jb a 0) (jb b 0) λc=>jl c false λ_=>jP c (jb a 1) λd=>km c (kP d) λd=>jl c false λ_=>jP c (jb b 1) λe=>km c (kP e) λe=>km c (jy .neq false d e) λd=>zJ c (vb true) d (jf (A.tup [A.agg [sv [],A.sl 2 []],A.agg [sv [],A.sl 2 []],vb false])) (jW (jb a 1) λc=>jnC (jb a 1) c (vi 0) (jb b 0) (jb b 1) (sv []) (sv []) [] []):=gq Tryz.func317
theorem jAl:jnC a b c d e f g p q=jB c b (ye 2 2 a c λh=>jc 2 h λh=>ye 2 2 e c λi=>kF 164 [jH h,i] λi=>qw i (ye 2 2 e c λa=>brn (jU (jb h 0)) (brn (jU (jb h 1)) (jc 2 a λa=>jf (A.tup [jH h,jH a,vb true])) none) none) (jq c (vi 1) λc=>jnC a b c d e f g p q)) (jf (A.tup [A.agg [sv [],A.sl 2 []],A.agg [sv [],A.sl 2 []],vb false])):=hq Tryz.func317
theorem jLL:G 319 [a,b]=jc 3 a λa=>jnD b (vi 0) (jb a 0) (jb a 1) (jb a 2):=gq Tryz.func319
theorem jAm:jnD a b c d e=JP b c (JO 1 c b λf=>yz f a (jf b) (jq b (vi 1) λb=>jnD a b c d e)) (jf (vi (- 1))):=hq Tryz.func319
theorem jLM:G 320 [a,b]=jc 2 a λa=>yz (jb a 0) b (jis b (vi 1) (vi 0) (jb a 0) (jb a 1)) (jis b (vi 0) (vi 0) (jb a 0) (jb a 1)):=gq Tryz.func320
theorem jAn:jis a b c d e=JP c e (ye 2 2 e c λf=>kF 320 [f,a] λf=>jq b f λb=>jq c (vi 1) λc=>jis a b c d e) (jf b):=hq Tryz.func320
theorem g37:G 37 [a]=jc 2 a λa=>kF 57 [jH a] λb=>jl b true λ_=>ya b 58 [jH a] λa=>kY b (jy .lss false a (vi 0)) λa=>jQ b a (vb false) λa=>jf a:=gq Tryz.func37
theorem g43:G 43 [a]=jc 2 a λa=>jW (jb a 0) λb=>jgI b (vi 30) λb=>jl b false λ_=>jP b (jb a 1) λc=>km b (kP c) λc=>km b (jy .gtr false c (vi 60)) λc=>zJ b (vb true) c (jf (vb false)) (juk (vi 0) (jb a 0) (jb a 1)):=gq Tryz.func43
theorem jED:juk a b c=JP a b (ye 1 1 b a λd=>kF 65 [d] λd=>qw d (jf (vb false)) (jq a (vi 1) λa=>juk a b c)) (jf (vb true)):=hq Tryz.func43
theorem g44:G 44 [a]=jc 2 a λa=>jul (vi 0) (jb a 0) (jb a 1):=gq Tryz.func44
theorem jEE:jul a b c=JP a c (kF 66 [A.agg [b,c],a] λd=>qw d (jf a) (jq a (vi 1) λa=>jul a b c)) (jf (vi (- 1))):=hq Tryz.func44
theorem g47:G 47 [a,b,c]=e_6 a b c:=gq Tryz.func47
theorem g57:G 57 [a]=jc 2 a λa=>jW (jb a 0) λb=>jdb b (vi 30) λb=>jl b true λ_=>jT b (jb a 0) λc=>ya b 85 [c] λc=>jQ b c (vb false) λb=>jl b true λ_=>jT b (jb a 1) λa=>kY b (kP a) λa=>kY b (jy .leq false a (vi 60)) λa=>jQ b a (vb false) λa=>jf a:=gq Tryz.func57
theorem g58:G 58 [a]=jc 2 a λa=>jW (jb a 1) λb=>jum b (vi 0) (jb a 0) (jb a 1):=gq Tryz.func58
theorem jEF:jum a b c d=jB b a (kF 86 [A.agg [c,d],b] λe=>qw e (jf b) (jq b (vi 1) λb=>jum a b c d)) (jf (vi (- 1))):=hq Tryz.func58
theorem g65:G 65 [a]=jc 1 a λa=>kF 91 [jX a] λb=>jl b true λ_=>ya b 92 [jX a] λa=>jQ b a (vb false) λa=>jf a:=gq Tryz.func65
theorem g66:G 66 [a,b]=jc 2 a λa=>ye 4 4 (jb a 1) b λc=>jc 4 c λc=>jc1 b (vi 0) (jb a 0) (jb a 1) (jb c 0) (jb c 1) (jb c 2) (jb c 3):=gq Tryz.func66
theorem jvb:jc1 a b c d e f g h=JP b f (JO 1 f b λi=>yp a (vi 1) λj=>kF 22 [i,vi 0,j] λi=>qw i (jf (vb false)) (jq b (vi 1) λb=>jc1 a b c d e f g h)) (YV 93 [A.agg [c,d],A.agg [e,f,g,h]] λa b=>jc 1 a λa=>jl b true λ_=>jl b true λ_=>jl b true λ_=>ya b 94 [jX a,A.agg [h]] λa=>jQ b a (vb false) λa=>jf a):=hq Tryz.func66
theorem g83:G 83 [a]=jc 2 a λa=>brn (jU (jb a 0)) (brn (jU (jb a 0)) (jup (vi 0) (jb a 0) (jb a 1) (sv []) (jb a 0) [] []) none) none:=gq Tryz.func83
theorem jEJ:jup a b c d e p q=JP a c (ye 2 2 c a λf=>(G 83 [f]).bind λf=>zD f λf=>jc 2 f λf=>brn (jM ((jv q)+(jv [[jb f 0,jb f 1]])) 40) (jq a (vi 1) λa=>jup a b c d e p (jR q [[jb f 0,jb f 1]])) none) (brn (jU e) (jf (A.agg [e,A.sl 2 q])) none):=hq Tryz.func83
theorem jHx:jue a b=brn (jU a) (brn (jU b) (brn (jU a) (brn (jU a) (jhz (vi 0) a b (sv []) a [] []) none) none) none) none:=vq Tryz.func83
theorem jvf:jhz a b c d e p q=JP a c (ye 2 2 c a λf=>(G 83 [f]).bind λf=>zD f λf=>jc 2 f λf=>brn (jM ((jv q)+(jv [[jb f 0,jb f 1]])) 40) (jq a (vi 1) λa=>jhz a b c d e p (jR q [[jb f 0,jb f 1]])) none) (brn (jU e) (some (A.top,[e,A.sl 2 q])) none):=hq Tryz.func83
theorem jHy:juf a=kRs 1 a λa=>brn (jM (jv a) 8) (some (A.top,[A.sl 1 a])) none:=vq Tryz.func84
theorem g85:G 85 [a]=Q0 103 [a,A.fn 104 []] λa=>jf a:=gq Tryz.func85
theorem g86:G 86 [a,b]=jc 2 a λa=>brn (jU b) (ye 4 4 (jb a 1) b λc=>jc 4 c λc=>kfn true (G 106 [jb c 1,A.fn 107 [A.elt [b] 0]]) λb=>Jf b (jf (vb false)) (YV 108 [jH a,jF4 c] λa b=>jc 1 a λa=>jl b true λ_=>jl b true λ_=>jl b true λ_=>ya b 109 [jX a,A.agg [jb c 3]] λa=>jQ b a (vb false) λa=>jf a)) none:=gq Tryz.func86
theorem g87:G 87 [a]=jc 1 a λa=>jW (jb a 0) λb=>juq (jb a 0) b (vi 0) [] []:=gq Tryz.func87
theorem jEK:juq a b c p q=jB c b (ye 3 3 a c λd=>jc 3 d λd=>kF 110 [Yq d] λd=>jc 3 d λd=>brn (jM ((jv q)+(jv [[jb d 0,jb d 1,jb d 2]])) 48) (jq c (vi 1) λc=>juq a b c p (jR q [[jb d 0,jb d 1,jb d 2]])) none) (jf (A.agg [A.sl 3 q])):=hq Tryz.func87
theorem g91:G 91 [a]=jc 1 a λa=>jW (jb a 0) λb=>qk b (vi 8) (jf (vb false)) (jur (vi 0) (jb a 0)):=gq Tryz.func91
theorem jEL:jur a b=JP a b (Je 2 3 b a 1 λc=>Q0 112 [c] λc=>jP c a λd=>km c (jy .gtr false d (vi 0)) λd=>jP c d λd=>jl d true λ_=>jT d b λe=>jT d a λf=>kY d (jy .sub false f (vi 1)) λf=>kY d (jk 3 e f) λe=>kY d (kC 3 e) λe=>jl d true λ_=>jT d b λf=>jT d a λg=>kY d (jk 3 f g) λf=>kY d (kC 3 f) λf=>ya d 113 [e,f] λe=>kY d (jy .geq false e (vi 0)) λe=>km c (Zf d e (vb false)) λd=>zJ c (vb true) d (jf (vb false)) (jq a (vi 1) λa=>jur a b)) (jf (vb true)):=hq Tryz.func91
theorem g92:G 92 [a]=jc 1 a λa=>kF 114 [jX a] λa=>jus a (vi 0):=gq Tryz.func92
theorem jEM:jus a b=JP b a (JO 1 a b λc=>kF 115 [b] λd=>jq (sv [88]) d λd=>zV c d (jf (vb false)) (jq b (vi 1) λb=>jus a b)) (jf (vb true)):=hq Tryz.func92
theorem g93:G 93 [a,b]=jc 2 a λa=>jc 4 b λb=>jW (jb b 1) λc=>jW (jb b 2) λd=>zU (jb b 0) (vi 1) λe=>jT e c λf=>kY e (jy .eql false f (vi 0)) λf=>jQ e f (vb false) λe=>jT e d λf=>kY e (jy .eql false f (vi 1)) λf=>jQ e f (vb false) λe=>jl e true λ_=>jT e (jb b 2) λf=>kY e (jk 1 f (vi 0)) λf=>kY e (j9 f) λf=>jl e true λ_=>jT e (jb a 0) λg=>kY e (kP g) λg=>kY e (jy .sub false g (vi 1)) λg=>ya e 22 [f,vi 0,g] λf=>zJ e f (vb false) (e_8 b a) (zU (jb b 0) (vi 2) λe=>jT e c λf=>kY e (jy .eql false f (vi 2)) λf=>jQ e f (vb false) λe=>jT e d λf=>kY e (jy .eql false f (vi 2)) λf=>zJ e f (vb false) (JO 1 (jb b 1) (vi 0) λc=>Je 1 4 (jb a 1) c 3 λc=>JO 1 (jb b 2) (vi 0) λd=>JO 1 (jb b 1) (vi 1) λe=>Je 1 4 (jb a 1) e 3 λa=>JO 1 (jb b 2) (vi 1) λb=>YV 116 [c,d,a,b] λa b=>jc 1 a λa=>jf (A.tup [jX a,b])) (zU (jb b 0) (vi 3) λe=>jT e c λf=>kY e (jy .eql false f (vi 1)) λf=>jQ e f (vb false) λe=>jT e d λf=>kY e (jy .eql false f (vi 2)) λf=>zJ e f (vb false) (JO 1 (jb b 1) (vi 0) λc=>Je 1 4 (jb a 1) c 3 λa=>JO 1 (jb b 2) (vi 0) λc=>JO 1 (jb b 2) (vi 1) λb=>YV 117 [a,c,b] λa b=>jc 1 a λa=>jf (A.tup [jX a,b])) (zU (jb b 0) (vi 4) λe=>jT e c λf=>kY e (jy .eql false f (vi 2)) λf=>jQ e f (vb false) λe=>jT e d λf=>kY e (jy .gtr false f (vi 3)) λf=>zJ e f (vb false) (JO 1 (jb b 1) (vi 0) λc=>Je 1 4 (jb a 1) c 3 λc=>JO 1 (jb b 2) (vi 0) λd=>JO 1 (jb b 2) (vi 1) λe=>JO 1 (jb b 1) (vi 1) λf=>Je 1 4 (jb a 1) f 3 λa=>JO 1 (jb b 2) (vi 2) λf=>kSl 1 (jb b 2) (some (vi 3)) none λb=>YV 118 [c,d,e,a,f,b] λa b=>jc 1 a λa=>jf (A.tup [jX a,b])) (zU (jb b 0) (vi 5) λe=>jT e c λf=>kY e (jy .eql false f (vi 1)) λf=>jQ e f (vb false) λe=>jT e d λf=>kY e (jy .eql false f (vi 1)) λf=>zJ e f (vb false) (JO 1 (jb b 1) (vi 0) λc=>Je 1 4 (jb a 1) c 3 λa=>JO 1 (jb b 2) (vi 0) λb=>YV 119 [a,b] λa b=>jc 1 a λa=>jf (A.tup [jX a,b])) (zU (jb b 0) (vi 6) λe=>jT e c λc=>kY e (jy .gtr false c (vi 1)) λc=>jQ e c (vb false) λc=>jT c d λd=>kY c (jy .eql false d (vi 0)) λd=>zJ c d (vb false) (YV 120 [jH a,jb b 1] λa b=>jc 1 a λa=>jf (A.tup [jX a,b])) (jf (A.tup [A.agg [A.sl 3 []],vb false]))))))):=gq Tryz.func93
theorem g94:G 94 [a,b]=jc 1 a λa=>jc 1 b λb=>jW (jb a 0) λc=>jW (jb b 0) λd=>zV c d (jf (vb false)) (jut (vi 0) (jb a 0) (jb b 0)):=gq Tryz.func94
theorem jEN:jut a b c=JP a b (YW 3 b a 0 λd=>YW 3 c a 0 λe=>(jy .neq true d e).bind λd=>jl d false λ_=>jP d b λe=>jP d a λf=>km d (jk 3 e f) λe=>km d (qe e 1) λe=>km d (kC 2 e) λe=>jl d false λ_=>jP d c λf=>jP d a λg=>km d (jk 3 f g) λf=>km d (qe f 1) λf=>km d (kC 2 f) λf=>yD d 121 [e,f] λe=>km d (Jg .not e) λe=>zJ d (vb true) e (jf (vb false)) (jq a (vi 1) λa=>jut a b c)) (jf (vb true)):=hq Tryz.func94
theorem jFJ:jbc a b p=jc 2 a λa=>jc 2 b λb=>kF 168 [jb a 0] λc=>Jf c (jbr (vi 0) (jb a 0) (jb a 1) (jb b 0) (jb b 1) p) (JQ (jb a 0) (jb b 0) λc=>jl c false λ_=>jP c (jb a 1) λd=>km c (kP d) λd=>jl c false λ_=>jP c (jb b 1) λe=>km c (kP e) λe=>km c (jy .neq false d e) λd=>zJ c (vb true) d (some (A.top,[vb false,A.sl 259 p])) (jei (vi 0) (jb a 0) (jb a 1) (jb b 0) (jb b 1) p)):=vq Tryz.func293
theorem jqw:jbr a b c d e p=jB a (yB p) (qZ (jv p) a λf=>kRP p f 0 λf=>yz f b (jCU p a d e) (jq a (vi 1) λa=>jbr a b c d e p)) (jCV b d e p):=hq Tryz.func293
theorem jAf:jei a b c d e p=jCX a c e p b d:=hq Tryz.func293
theorem jjb:jej a b c d e p=jCX a c e p b d:=hq Tryz.func293
end
end
end Go.Proofs.YthlhadhipnokfaaGreatDoor
