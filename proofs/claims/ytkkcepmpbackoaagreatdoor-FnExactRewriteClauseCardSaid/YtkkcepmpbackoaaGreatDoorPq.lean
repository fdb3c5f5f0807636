/- Pq -/
import Derived.Test.YtkkcepmpbackoaaGreatDoorKt
import Derived.KernelRfl
set_option linter.unusedVariables false
namespace Go.Proofs.YtkkcepmpbackoaaGreatDoor
open Go Go.RowKit Go.Proofs.YtkkcepmpbackoaaGreatDoor.Abs
set_option linter.unusedSimpArgs false
set_option linter.unusedVariables false
noncomputable section
def vT:V:=V.top
def vD(a:A):V:=V.d a
def vP(i:Nat):V:=V.ptr i 0
def vR(i:Nat):V:=V.row i
def tp(n:Nat):Xj:=List.replicate n vT
def pth:Nat->Nat->Xf
 |0,_=>[]
 |k+1,n=>if Nat.ble n 1 then[]else pth k (n/10)++[n%10]
def hs(sh:Option Xf)(f p:Nat)(l:Xj)(n:Nat)(ob:List Abs.Obj):Xe:=MM K (.head f (pth 60 p) (l++tp n) ob sh)
def hd(f p:Nat)(l:Xj)(n:Nat)(ob:List Abs.Obj):Xe:=hs none f p l n ob
theorem gq{f:FuncId}{fn:Func}{l:Xd}{r:Xe}(h3:Tryz.prog.funcs[f]? = some fn)(h2:K.pureF f=true:=by exact rfl)(h4:fn.body.isSome=true:=by exact rfl)(h5:Nat.ble l.length fn.ntmps=true:=by exact rfl)(h1:K.ext f=none:=by exact rfl)(e:evC K (MM K) f (codeOf fn) [] (ZL fn l) (Jh K f fn)=r:=by kernel_rfl):G f l=r:=(jy9 h2 h3 h4 h5 h1).trans e
theorem vq{f:FuncId}{fn:Func}{l:Xj}{ob:List Abs.Obj}{r:Xe}(h3:Tryz.prog.funcs[f]? = some fn)(h1:K.extv f=none:=by exact rfl)(h4:fn.body.isSome=true:=by exact rfl)(h5:Nat.ble l.length fn.ntmps=true:=by exact rfl)(e:evC K (MM K) f (codeOf fn) [] (YD fn l ob) (Jh K f fn)=r:=by kernel_rfl):MM K (.callv f l ob)=r:=(jzd h1 h3 h4 h5).trans e
theorem hq{f:FuncId}{fn:Func}{p:Xf}{l:Xj}{ob:List Abs.Obj}{sh:Option Xf}{r:Xe}(h3:Tryz.prog.funcs[f]? = some fn)(h4:fn.body.isSome=true:=by exact rfl)(e:evAt K (MM K) f (codeOf fn) p [] (St.of fn.ntmps l ob sh) (Jh K f fn)=r:=by kernel_rfl):MM K (.head f p l ob sh)=r:=(jzb h3 h4).trans e
section
variable{B:Type}
def jd(n:Nat)(a:A)(k0:Xd->Option B):Option B:=(QU n a).bind k0
def kIA(k:Nat)(x i:A)(k0:A->Option B):Option B:=(jz k x i).bind k0
def kM(t:A)(n:Nat)(k0:A->Option B):Option B:=(jeA t n).bind k0
def ko(t x y:A)(k0:A->Option B):Option B:=(JC t x y).bind k0
def jx(t:A)(w:Bool)(k0:Bool->Option B):Option B:=(JD t w).bind k0
def ky(l:A)(k0:A->Option B):Option B:=(zG l).bind k0
def kLN(n:Nat)(a:A)(k0:A->Option B):Option B:=(jbr n a).bind k0
def jjd(a:A)(n:Nat)(k0:A->Option B):Option B:=(Jk a n).bind k0
def jW(t x:A)(k0:A->Option B):Option B:=(pG t true (some x)).bind k0
def kA(t x:A)(k0:A->Option B):Option B:=(pG t false (some x)).bind k0
def zm(t:A)(x:Xl)(k0:A->Option B):Option B:=(pG t true x).bind k0
def zL(t:A)(x:Xl)(k0:A->Option B):Option B:=(pG t false x).bind k0
def yn(t:A)(n:Nat)(l:Xd)(k0:A->Option B):Option B:=(pG t true ((G n l).bind (fin false))).bind k0
def Qg(t:A)(n:Nat)(l:Xd)(k0:A->Option B):Option B:=(pG t false ((G n l).bind (fin false))).bind k0
def kF(n:Nat)(l:Xd)(k0:A->Option B):Option B:=((G n l).bind (fin false)).bind k0
def zO(o:Out)(k0:A->Option B):Option B:=(fin false o).bind k0
def kfn(b:Bool)(x:Xe)(k0:A->Option B):Option B:=(x.bind (fin b)).bind k0
def QL(x:A)(k0:A->Option B):Option B:=(Zl .not x).bind k0
def kHD(o:Out)(i:Nat)(k0:A->Option B):Option B:=(hD o i).bind k0
def JU(k:Nat)(o:Out)(i:Nat)(k0:Xc->Option B):Option B:=(hR k o i).bind k0
def QK(n:Nat)(i:A)(k0:Nat->Option B):Option B:=(ZB n i).bind k0
def kB(d t:Nat)(x:Xl)(k0:Nat->Option B):Option B:=(pB d t x).bind k0
def kRN(l:Xc)(i j n:Nat)(k0:A->Option B):Option B:=(y5 l i j n).bind k0
def kRG(l:Xc)(i:Nat)(k0:Xd->Option B):Option B:=(ZY l i).bind k0
def kIS(a i:A)(k0:A->Option B):Option B:=(zj a i).bind k0
def kSl(k:Nat)(a:A)(x y:Xl)(k0:A->Option B):Option B:=(yt k a x y).bind k0
def kRP(l:Xc)(i j:Nat)(k0:A->Option B):Option B:=(jgh l i j).bind k0
def kMk(n:Nat)(a b:A)(k0:Nat->Option B):Option B:=(jcH n a b).bind k0
def kRs(k:Nat)(a:A)(k0:Xc->Option B):Option B:=(Kf k a).bind k0
def kLS(a:A)(k0:A->Option B):Option B:=(ja0 a).bind k0
def jC(x y:A)(k0:A->Option B):Option B:=(jq .add false x y).bind k0
def yY(x y:A)(k0:A->Option B):Option B:=(jq .eql false x y).bind k0
def jaK(x y:A)(k0:A->Option B):Option B:=(jq .geq false x y).bind k0
def jqy(x y:A)(k0:A->Option B):Option B:=(jq .gtr false x y).bind k0
def jd9(x y:A)(k0:A->Option B):Option B:=(jq .leq false x y).bind k0
def K7(x y:A)(k0:A->Option B):Option B:=(jq .lss false x y).bind k0
def juP(x y:A)(k0:A->Option B):Option B:=(jq .mul false x y).bind k0
def K8(x y:A)(k0:A->Option B):Option B:=(jq .neq false x y).bind k0
def jm7(x y:A)(k0:A->Option B):Option B:=(jq .quo false x y).bind k0
def jqz(x y:A)(k0:A->Option B):Option B:=(jq .shr false x y).bind k0
def jcx(x y:A)(k0:A->Option B):Option B:=(jq .sub false x y).bind k0
def JK(t:A)(X Y:Option B):Option B:=(zF t).bind λu=>brn u X Y
def yU(c x y:A)(X Y:Option B):Option B:=(JC c x y).bind λt=>(zF t).bind λu=>brn u X Y
def K9(x:A)(X Y:Option B):Option B:=(Zl .not x).bind λt=>(zF t).bind λu=>brn u X Y
def Yf(i l:A)(X Y:Option B):Option B:=(zG l).bind λn=>(jq .lss false i n).bind λt=>(zF t).bind λu=>brn u X Y
def kF2(n:Nat)(l:Xd)(k:A->A->Option B):Option B:=((G n l).bind (fin false)).bind λt=>(jeA t 0).bind λa=>(jeA t 1).bind λb=>k a b
def kFN(n:Nat)(l:Xd)(k:A->Option B):Option B:=((G n l).bind (fin false)).bind λt=>(Zl .not t).bind k
def kAP(a:A)(m:Nat)(k:A->Option B):Option B:=(Jk a m).bind λt=>(kU t).bind k
def qu(n m:Nat)(x i:A)(k:A->Option B):Option B:=(jz m x i).bind λt=>(jbr n t).bind k
def kIP(m:Nat)(x i:A)(k:A->Option B):Option B:=(jz m x i).bind λt=>(kU t).bind k
def jd8(n m:Nat)(x i:A)(o:Nat)(k:A->Option B):Option B:=(jz m x i).bind λt=>(Jk t o).bind λt=>(jbr n t).bind k
def jcX(m:Nat)(x i:A)(o:Nat)(k:A->Option B):Option B:=(jz m x i).bind λt=>(Jk t o).bind λt=>(kU t).bind k
def jL(x y:A)(X Y:Option B):Option B:=(jq .lss false x y).bind λt=>(zF t).bind λu=>brn u X Y
def jll(x y:A)(X Y:Option B):Option B:=(jq .leq false x y).bind λt=>(zF t).bind λu=>brn u X Y
def yr(x y:A)(X Y:Option B):Option B:=(jq .gtr false x y).bind λt=>(zF t).bind λu=>brn u X Y
def jhF(x y:A)(X Y:Option B):Option B:=(jq .geq false x y).bind λt=>(zF t).bind λu=>brn u X Y
def qg(x y:A)(X Y:Option B):Option B:=(jq .eql false x y).bind λt=>(zF t).bind λu=>brn u X Y
def zZ(x y:A)(X Y:Option B):Option B:=(jq .neq false x y).bind λt=>(zF t).bind λu=>brn u X Y
def jh(x:A):Xe:=some (x,[])
def zn(t:Xd):A:=A.agg [jc t 0]
def j8(t:Xd):A:=A.agg [jc t 0,jc t 1]
def jtA(t:Xd):A:=A.agg [jc t 0,jc t 1,jc t 2]
end
section
variable(a b c d e f g h i j k l m n o aa ab ac ad ae af ag ah ai aj ak al am:A)(p q r s t u v w x y z:Xc)
def jgY:=hd 104 111010 [vT,vP 0,vP 1,vP 2,vD a] 22 [.box [vD b,vD c],.box [vD d,vR 3],.box [vD e,vR 4],.row 2 p,.row 2 q]
def jA5:=MM K (.callv 104 [V.agg [V.d a,V.d b]] [])
def jsA:=hs (some []) 104 111010 [vT,vP 0,vP 1,vP 2,vD a] 22 [.box [vD b,vD c],.box [vD d,vR 3],.box [vD e,vR 4],.row 2 p,.row 2 q]
def jCN:=hd 105 111010 [vT,vD a,vD b,vP 0,vT,vT,vP 1,vT,vD c,vD d] 70 [.box [vD e,vD f],.box [vD g,vR 2],.row 2 p]
def jCP:=hd 105 11101001001110 [vT,vD a,vD b,vP 0,vT,vT,vP 1,vT,vD c,vD d,vP 2,vT,vD e] 67 [.box [vD f,vD g],.box [vD h,vR 3],.box [vD i,vD j],.row 2 p]
def jgZ:=hd 107 11010 ([vD a,vD b]++tp 5++[vD c,vD d]) 10 []
def jgR:=MM K (.callv 109 [vD a] [])
def Q8:=hs (some []) 109 1111010 ([vT,vT,vT,vR 0]++tp 8++[vD a,vD b,vD c]) 11 [.tre false 2 p]
def jBP:=MM K (.callv 110 [vR 0,vD a,V.agg [V.d b,V.d c]] [.map p])
def jBn:=hs (some [0]) 110 1111010 ([vR 0]++tp 4++[vP 1]++tp 46++[vD a,vD b,vD c]) 14 [.map p,.box [vD d,vD e]]
def jp2:=MM K (.callv 110 [vR 0,V.agg [V.d a,V.d b],vD c] [.map p])
def jBq:=hs (some [0]) 110 1111010 ([vR 0]++tp 4++[vP 1]++tp 46++[vD a,vD b,vD c]) 14 [.map p,.box [vD d,vD e]]
def jDx:=MM K (.callv 111 [vD a,vD b] [])
def jBS:=hs (some []) 111 1111010 ([vT,vD a,vT,vT,vP 0,vT,vT,vP 1]++tp 22++[vD b,vD c,vD d]) 13 [.box [vD e,vR 2],.box [vD f,vR 3],.tre true 2 p,.tre true 2 q]
def jg0:=hd 112 111010 [vT,vT,vT,vD a,vT,vT,vT,vD b,vD c,vD d] 12 []
def jg1:=hd 113 111010 [vT,vT,vT,vD a,vT,vT,vT,vD b,vD c,vD d] 10 []
def jgS:=MM K (.callv 115 [vD a] [])
def Q9:=hs (some []) 115 111010 [vT,vT,vP 0,vP 1,vT,vT,vT,vD a,vD b,vD c] 19 [.box [vR 2],.box [vR 3],.tre true 3 p,.tre true 3 q]
def jaa:=hs (some []) 115 111010 [vT,vT,vP 0,vP 1,vT,vT,vT,vD a,vD b,vD c] 19 [.box [vR 2],.box [vR 3],.tre true 3 p,.tre false 3 q]
def jkP:=MM K (.callv 116 [V.agg [V.d a]] [])
def jab:=hs (some []) 116 111010 ([vT,vT,vP 0,vP 1]++tp 4++[vD a,vD b,vD c]) 12 [.box [vR 2],.box [vR 3],.tre true 3 p,.tre true 3 q]
def jgT:=MM K (.callv 117 [vD a,vD b] [])
def jac:=hs (some []) 117 111010 ([vT,vD a,vT,vT,vP 0,vR 1]++tp 4++[vD b,vD c,vD d]) 16 [.box [vR 2],.row 3 p,.row 3 q]
def jg2:=hd 118 111010 [vT,vD a,vT,vT,vT,vR 0,vT,vT,vT,vD b,vD c,vD d] 12 [.map p]
def jg3:=hd 119 111010 [vT,vD a,vD b,vP 0,vT,vT,vP 1,vR 2,vD c] 29 [.box [vD d],.box [vR 3],.row 3 p,.row 3 q]
def jmk:=MM K (.callv 11 [V.agg [V.row 0],vD a] [.tre true 3 p])
def jdr:=hd 121 11010 [vT,vD a,vP 0,vT,vT,vD b] 16 [.box [vD c]]
def jg4:=hd 123 1111010 [vT,vP 0,vT,vD a] 31 [.box [vD b,vD c]]
def jyA:=hd 124 111010 [vD a,vT,vT,vP 0,vT,vD b] 23 [.box [vD c,vD d]]
def jkU:=hd 127 1111010 ([vT,vT,vP 0,vT,vP 1,vT,vT,vP 2]++tp 27++[vD a,vD b,vD c]) 13 [.box [vD d],.box [vD e,vR 4],.box [vD f,vR 3],.row 2 p,.row 2 q]
def jkV:=hd 127 1111010 ([vT,vT,vP 0,vT,vP 1,vT,vT,vP 2]++tp 27++[vD a,vD b,vD c]) 13 [.box [vD d],.box [vD e,vR 3],.box [vD f,vR 4],.row 2 p,.row 2 q]
def jin:=MM K (.callv 128 [vR 0,V.agg [V.d a,V.d b]] [.row 1 p])
def jsB:=hs (some [1]) 128 111010 ([vR 0]++tp 22++[vD a,vD b,vD c]) 8 [.row 1 p,.gone]
def jyF:=hs (some [0]) 128 111010 ([vR 0]++tp 22++[vD a,vD b,vD c]) 8 [.row 1 p]
def jyi:=MM K (.callv 129 [vR 0] [.row 1 p])
def jiq:=hd 13 1111010 [vD a,vD b,vT,vT,vT,vD c] 21 []
def jBU:=MM K (.callv 130 [vR 0,vD a] [.row 1 p])
def jsC:=hs (some [1]) 130 111111100 (tp 7++[vR 0,vD a]) 39 [.row 1 p,.row 1 q]
def qD:=hd 133 1111010 [vD a,vT,vT,vD b] 41 []
def jds:=hd 134 1111010 [vT,vT,vP 0,vP 1,vT,vT,vT,vD a] 67 [.box [vD b,vD c],.box [vD d,vD e]]
def jgU:=MM K (.callv 135 [vD a,vR 0] [.row 1 p])
def jad:=hs (some [0]) 135 111010 [vT,vR 0,vP 1,vT,vT,vD a] 28 [.row 1 p,.box [vD b,vD c]]
def jae:=hs (some [2]) 135 111010 [vT,vR 0,vP 1,vT,vT,vD a] 28 [.row 1 p,.box [vD b,vD c],.gone]
def jg6:=hd 137 11010 [vD a,vD b,vT,vT,vT,vD c] 12 []
def jkQ:=MM K (.callv 140 [V.agg [V.row 0],vD a,vD b] [.row 3 p])
def jdt:=hs (some [3]) 140 111100 [vT,vD a,vT,vP 0,vT,vP 1,vP 2,vD b] 43 [.box [vR 3],.box [vD c,vD d],.box [vR 4],.row 3 p,.row 3 q]
def jbv:=hd 141 111010 [vD a,vT,vP 0,vR 1,vD b] 69 [.box [vR 2],.row 3 p,.row 3 q]
def jg7:=hd 141 1110100100100 [vD a,vT,vP 0,vR 1,vD b,vD c] 68 [.box [vR 2],.row 3 p,.row 3 q]
def jdu:=hd 142 111010 [vT,vT,vT,vD a,vT,vT,vD b,vD c,vD d] 9 []
def jdm:=MM K (.callv 146 [vR 0,V.agg [V.d a,V.d b]] [.row 1 p])
def jaf:=hs (some [0]) 146 111010 ([vR 0]++tp 26++[vD a,vD b,vD c]) 8 [.row 1 p]
def jag:=hs (some [1]) 146 111010 ([vR 0]++tp 26++[vD a,vD b,vD c]) 8 [.row 1 p,.gone]
def jg8:=hd 148 111010 ([vT,vD a,vD b]++tp 12++[vD c,vD d,vD e]) 14 []
def jEE:=hd 155 111010 [vT,vD a,vP 0,vT,vT,vR 1,vD b] 26 [.box [vD c,vD d],.row 1 p]
def jDD:=MM K (.callv 156 [vD a,V.agg [V.d b,V.d c],vR 0] [.row 3 p])
def jBs:=hs (some [0]) 156 11010010 [vT,vT,vR 0,vP 1,vP 2,vT,vT,vT,vD a] 77 [.row 3 p,.box [vD b,vD c],.box [vD d,vD e]]
def jBT:=hs (some [0]) 156 1111010 ([vT,vT,vR 0,vP 1,vP 2]++tp 4++[vD a]) 76 [.row 3 p,.box [vD b,vD c],.box [vD d,vD e]]
def jBY:=hs (some [3]) 156 1111010 ([vT,vT,vR 0,vP 1,vP 2]++tp 4++[vD a]) 76 [.row 3 p,.box [vD b,vD c],.box [vD d,vD e],.gone]
def jF7:=hs (some [3]) 156 1111010 ([vT,vT,vR 0,vP 1,vP 2]++tp 4++[vD a]) 76 [.gone,.box [vD b,vD c],.box [vD d,vD e],.gone]
def jBm:=MM K (.callv 156 [vD a,vD b,vR 0] [.row 3 p])
def jBt:=hs (some [0]) 156 11010010 [vT,vT,vR 0,vP 1,vP 2,vT,vT,vT,vD a] 77 [.row 3 p,.box [vD b,vD c],.box [vD d,vD e]]
def jB9:=hs (some [0]) 156 1111010 ([vT,vT,vR 0,vP 1,vP 2]++tp 4++[vD a]) 76 [.row 3 p,.box [vD b,vD c],.box [vD d,vD e]]
def jCl:=hs (some [3]) 156 1111010 ([vT,vT,vR 0,vP 1,vP 2]++tp 4++[vD a]) 76 [.row 3 p,.box [vD b,vD c],.box [vD d,vD e],.gone]
def jF8:=hs (some [3]) 156 1111010 ([vT,vT,vR 0,vP 1,vP 2]++tp 4++[vD a]) 76 [.gone,.box [vD b,vD c],.box [vD d,vD e],.gone]
def jEF:=hd 157 111010 [vD a,vT,vP 0,vP 1,vD b] 20 [.box [vR 2],.box [vR 3],.row 3 p,.row 3 q]
def jdv:=hd 159 11010 ([vD a]++tp 4++[vD b,vD c]) 41 []
def jdn:=MM K (.callv 15 [vD a] [])
def jc4:=hs (some []) 15 111010 [vD a,vT,vT,vR 0,vD b] 18 [.tre false 2 p]
def jgW:=MM K (.callv 161 [V.agg [V.d a,V.d b,V.d c]] [])
def jkS:=MM K (.callv 162 [vR 0,V.fn 96 []] [.tre true 3 p])
def jkT:=MM K (.callv 162 [vR 0,V.fn 96 []] [.tre false 3 p])
def jgX:=MM K (.callv 163 [vR 0,V.fn 164 []] [.tre true 3 p])
def jbw:=hd 165 1111010 ([vT,vD a,vT,vT,vP 0,vP 1]++tp 24++[vD b,vD c,vD d]) 13 [.box [vD e,vR 2],.box [vD f,vR 3],.row 2 p,.row 2 q]
def jha:=hd 166 11010010 [vT,vD a,vD b,vP 0,vT,vT,vP 1,vD c] 50 [.box [vD d,vD e],.box [vD f,vR 2],.row 2 p]
def jhb:=hd 166 1111010 [vT,vD a,vD b,vP 0,vT,vT,vP 1,vT,vP 2,vD c] 48 [.box [vD d,vD e],.box [vD f,vR 3],.box [vD g,vR 4],.row 2 p,.row 2 q]
def jhc:=hd 167 111010 [vT,vD a,vP 0,vT,vT,vD b,vD c] 24 [.box [vD d,vD e]]
def jhd:=hd 168 111010 [vT,vP 0,vT,vD a,vD b] 17 [.box [vD c,vD d]]
def jhe:=hd 169 11100 [vD a,vD b,vT,vT,vT,vD c] 39 []
def jFB:=MM K (.callv 16 [vD a,vD b] [])
def jCq:=hs (some []) 16 1111010 ([vT,vD a,vT,vT,vP 0,vT,vR 1]++tp 16++[vD b,vD c,vD d]) 27 [.box [vR 2],.tre true 3 p,.tre true 3 q]
def jmm:=hd 17 111010 [vD a,vD b,vT,vT,vT,vD c] 21 []
def jA6:=hd 170 111010 [vT,vP 0,vT,vD a] 57 [.box [vD b,vD c,vD d]]
def jyM:=hd 180 11010 ([vT,vT,vT,vP 0,vP 1,vP 2]++tp 9++[vD a,vD b,vD c]) 49 [.box [vD d,vD e,vD f],.box [vD g,vD h],.box [vD i,vD j]]
def jhf:=hd 183 111010 [vD a,vT,vT,vP 0,vT,vD b] 22 [.box [vD c,vD d]]
def jhh:=hd 185 11010 ([vD a,vD b,vD c]++tp 8++[vD d,vD e,vD f]) 25 []
def jdx:=hd 188 1111010 ([vT,vD a,vT,vT,vT,vD b]++tp 7++[vD c,vD d,vD e]) 10 []
def jdy:=hd 189 11010 ([vD a]++tp 4++[vD b,vD c]) 33 []
def jfz:=MM K (.callv 18 [vR 0,vD a] [.tre true 2 p])
def jc5:=hs (some [0]) 18 11010 [vR 0,vD a,vT,vT,vT,vD b] 22 [.tre true 2 p]
def jdz:=hd 190 111100 ([vD a,vD b,vD c]++tp 5++[vD d,vD e,vD f]) 38 []
def jEy:=MM K (.callv 194 [vD a] [])
def jA7:=hd 201 111010 [vT,vT,vP 0,vP 1,vT,vD a] 26 [.box [vD b,vD c,vD d],.box [vD e,vD f]]
def jA8:=hd 202 111010 [vT,vT,vP 0,vP 1,vT,vD a,vD b] 21 [.box [vD c,vD d],.box [vD e,vD f]]
def jyO:=hd 203 1111010 [vT,vT,vP 0,vP 1,vT,vD a,vD b] 31 [.box [vD c,vD d,vD e],.box [vD f,vD g]]
def jyP:=hd 205 11010 [vT,vT,vP 0,vP 1,vT,vD a] 20 [.box [vD b,vD c],.box [vD d,vD e]]
def jhi:=hd 206 11010 ([vD a,vD b]++tp 5++[vD c,vD d]) 10 []
def jA9:=hd 221 1111010 ([vT,vT,vP 0,vT,vT,vD a]++tp 16++[vD b,vD c,vD d]) 10 [.box [vD e,vD f,vD g]]
def jBa:=hd 223 111010 ([vT,vT,vT,vP 0,vP 1,vP 2]++tp 20++[vD a,vD b,vD c]) 21 [.box [vD d,vD e],.box [vD f,vR 3],.box [vD g,vR 4],.row 2 p,.row 2 q]
def jir:=hd 24 1111010 [vD a,vD b,vT,vT,vT,vD c] 21 []
def jBb:=hd 244 11010 [vT,vD a,vP 0,vT,vT,vD b] 15 [.box [vD c,vD d,vD e]]
def jyQ:=hd 245 1111010 [vT,vD a,vP 0,vT,vT,vD b,vD c] 21 [.box [vD d,vD e]]
def jpj:=MM K (.callv 27 [vD a] [])
def jc6:=hs (some []) 27 111010 [vD a,vT,vT,vR 0,vD b] 18 [.tre false 3 p]
def jmn:=hd 30 111010 [vD a,vD b,vT,vT,vT,vD c] 21 []
def jpl:=MM K (.callv 31 [vR 0,vD a] [.tre true 3 p])
def jc7:=hs (some [0]) 31 11010 [vR 0,vD a,vT,vT,vT,vD b] 33 [.tre true 3 p]
def jmo:=hd 32 11010 [vD a,vD b,vT,vT,vT,vD c] 39 []
def jFC:=hd 34 11010 [vD a,vT,vT,vD b] 15 []
def jFD:=hd 35 111010 [vT,vD a,vP 0,vT,vP 1,vT,vR 2,vD b] 42 [.box [vD c],.box [vR 3],.row 3 p,.row 3 q]
def jpm:=MM K (.callv 36 [vD a] [])
def jml:=MM K (.callv 36 [V.agg [V.d a,V.d b]] [])
def jEN:=MM K (.callv 38 [vD a,vD b,vD c] [])
def jDv:=hs (some []) 38 11110 [vT,vD a,vD b,vT,vT,vT,vP 0,vT,vT,vP 1,vD c] 26 [.box [vD d,vR 3],.box [vD e,vR 2],.tre false 2 p,.row 2 q]
def jEG:=hs (some []) 38 11110 [vT,vD a,vD b,vT,vT,vT,vP 0,vT,vT,vP 1,vD c] 26 [.box [vD d,vR 2],.box [vD e,vR 3],.row 2 p,.tre true 2 q]
def jGz:=hs (some []) 38 11110 [vT,vD a,vD b,vT,vT,vT,vP 0,vT,vT,vP 1,vD c] 26 [.box [vD d,vR 2],.box [vD e,vR 3],.row 2 p,.gone]
def jpn:=MM K (.callv 39 [vD a,vD b] [])
def jmp:=hd 41 111100 [vD a,vT,vT,vD b] 16 []
def jmq:=hd 45 111010 [vT,vP 0,vT,vD a] 38 [.box [vD b]]
def jmr:=hd 46 111010 [vT,vT,vT,vD a,vD b] 16 []
def jpp:=MM K (.callv 52 [vD a] [])
def jmu:=hd 53 11010 ([vT,vP 0]++tp 4++[vD a,vD b,vD c]) 27 [.box [vD d]]
def jmv:=hd 54 11010 (tp 6++[vD a,vD b,vD c]) 10 []
def jmy:=hd 60 11010 [vD a,vD b,vT,vT,vT,vD c] 26 []
def jEO:=hd 62 11110 [vT,vD a,vD b,vT,vT,vT,vP 0,vT,vT,vP 1,vD c] 26 [.box [vD d,vR 2],.box [vD e,vD f],.row 2 p]
def jfA:=MM K (.callv 66 [vD a] [])
def jy2:=MM K (.callv 67 [vD a,vD b,vD c] [])
def jCx:=hs (some []) 67 11010 ([vT,vD a,vD b,vP 0,vT,vT,vP 1]++tp 10++[vD c,vD d,vD e]) 45 [.box [vD f,vD g],.box [vD h,vR 2],.row 2 p]
def jBw:=hs (some []) 67 111010 ([vT,vT,vD a,vP 0,vT,vT,vP 1]++tp 33++[vD b,vD c,vD d]) 22 [.box [vD e,vD f],.box [vD g,vR 2],.row 2 p]
def jmz:=hd 69 111010 ([vT,vT,vP 0,vT,vP 1,vT,vR 2]++tp 5++[vD a,vD b,vD c]) 26 [.box [vD d],.box [vR 3],.row 3 p,.row 3 q]
def jpq:=MM K (.callv 70 [vD a] [])
def jhj:=hs (some []) 70 111010 [vT,vT,vP 0,vP 1,vD a] 17 [.box [vR 3],.box [vR 2],.tre true 3 p,.row 3 q]
def jhk:=hs (some []) 70 111010 [vT,vT,vP 0,vP 1,vD a] 17 [.box [vR 2],.box [vR 3],.row 3 p,.tre true 3 q]
def jCb:=hd 72 11010 [vT,vD a,vP 0,vT,vP 1,vT,vD b] 27 [.box [vD c,vD d],.box [vD e,vR 2],.row 2 p]
def jfE:=hd 73 111010 [vD a,vT,vT,vD b] 25 []
def jmA:=hd 74 1111010 [vT,vT,vP 0,vP 1,vP 2,vT,vP 3,vD a] 42 [.box [vD b],.box [vD c,vD d],.box [vD e,vR 4],.box [vD f,vR 5],.row 2 p,.row 2 q]
def jBv:=hd 76 11111010 [vT,vT,vP 0,vP 1,vT,vP 2,vD a] 43 [.box [vD b,vD c],.box [vD d,vD e],.box [vD f,vR 3,vD g],.row 1 p]
def jiu:=hd 88 111010 [vT,vP 0,vT,vR 1,vD a] 17 [.box [vD b],.row 1 p]
def jnL:=MM K (.callv 8 [V.agg [V.d a]] [])
def jmB:=hd 91 111010 [vT,vT,vP 0,vP 1,vT,vD a] 33 [.box [vD b,vD c],.box [vD d,vD e]]
def jmC:=hd 93 111010 [vT,vD a,vP 0,vT,vP 1,vT,vR 2,vD b] 37 [.box [vD c],.box [vR 3],.row 3 p,.row 3 q]
def jmD:=hd 94 111010 [vT,vT,vP 0,vT,vP 1,vD a] 19 [.box [vR 2],.box [vD b],.row 3 p]
def jiv:=hd 97 111010 ([vT,vT,vT,vR 0]++tp 4++[vD a,vD b,vD c]) 9 [.row 1 p]
def jpr:=MM K (.callv 97 [vD a] [])
def jaj:=hs (some []) 97 111010 ([vT,vT,vT,vR 0]++tp 4++[vD a,vD b,vD c]) 9 [.row 1 p]
def e_0(a:A)(b:Xd):Xe:=K9 a (jh (A.tup [A.agg [A.sl 3 []],vb false])) (brn (jQ (jc b 0)) (jh (A.tup [zn b,vb true])) none)
def e_1(a:A)(b:A)(p:Xc)(c:A)(q:Xc):Xe:=qu 3 3 a b λd=>jd 3 d λd=>(jgW (jc d 0) (jc d 1) (jc d 2)).bind λd=>kHD d 0 λe=>kHD d 1 λf=>JU 66 d 2 λd=>brn (jQ e) (brn (jQ f) (brn (kO e) (brn (kO f) (brn (jO ((jA p)+(jA [[e,f,A.sl 2 d]])) 48) (jC b (vi 1) λb=>jaa a c b q (j4 p [[e,f,A.sl 2 d]])) none) none) none) none) none
def e_2(a:Xd):Xe:=brn (jQ (jc a 0)) (brn (jQ (jc a 0)) (jh (A.agg [jc a 0,A.sl 2 []])) none) none
def e_3(a:A)(b:A)(c:A)(d:A)(p:Xc)(e:A)(f:A)(q:Xc):Xe:=jL a b (qu 2 2 c a λg=>jd 2 g λg=>kF 127 [A.agg [d],j8 g] λg=>QK (jA p) a λh=>jd 2 g λg=>kRG p h λi=>jC a (vi 1) λa=>jkV c b a d e f q (yh p h (zf i 0 [jc g 0,jc g 1]))) (brn (jQ f) (jh (A.agg [f,A.sl 2 p])) none)
def e_4(a:A)(b:A)(c:A)(p:Xc):Xe:=jL a b (qu 2 2 c a λd=>jd 2 d λd=>(jin (jc d 0) (jc d 1) p).bind λd=>JU 1 d 0 λd=>jC a (vi 1) λa=>jsB c b a d) (some (A.top,[A.sl 1 p]))
def e_5(a:A)(b:A)(p:Xc)(c:A):Xe:=Yf a b (qu 2 2 b a λd=>(jgU d p).bind λd=>JU 1 d 0 λd=>jC a (vi 1) λa=>jae a c b d) (some (A.top,[A.sl 1 p]))
def e_6(a:A)(b:A)(c:A)(d:A)(e:A)(f:A)(p:Xc)(q:Xc):Xe:=jW a b λg=>zm a (jq .lss false c g) λc=>yU a c (vb false) (jC d (vi 1) λa=>jdt b a e f p q) (kB (zS p) (kY p 0) (some d) λa=>brn (jO (jA (yi p 0 (j6 a 0))) 56) ((G 104 [A.agg [e,f]]).bind λc=>zO c λc=>(zk (kW (K.at 140) 129) [sv [],sv [],A.sl 2 []] [(0,b),(1,c)]).bind λb=>jd 3 b λb=>brn (jO ((jA (yi p 0 (j6 a 0)))+(jA [[jc b 0,jc b 1,jc b 2]])) 56) (kB (zS p) (kY p 0) none λc=>kB 0 c (some d) λd=>brn (jO ((jA (j4 (yi p 0 (j6 a 0)) [[jc b 0,jc b 1,jc b 2]]))+(jA (yi p (0+d) (j6 c d)))) 56) (some (A.top,[A.sl 3 (j4 (j4 (yi p 0 (j6 a 0)) [[jc b 0,jc b 1,jc b 2]]) (yi p (0+d) (j6 c d)))])) none) none) none)
def e_8(a:A)(b:A)(c:A)(d:A)(p:Xc)(q:Xc)(e:A):Xe:=jW a b λf=>jW a c λg=>zm a (jz 3 f g) λf=>zm a (jbr 3 f) λf=>yn a 87 [d,f] λd=>zm a (jq .eql false d (vi 0)) λd=>yU a d (vb false) (jC c (vi 1) λa=>jbv b a p q) (jcX 3 b c 0 λa=>jd8 2 3 b c 1 λd=>(G 104 [d]).bind λd=>zO d λd=>(zk (kW (K.at 141) 62) [vb false,sv [],A.sl 2 []] [(0,a),(1,d)]).bind λa=>jd 3 a λa=>kB (zS p) (kY p 0) (some e) λd=>brn (jO (jA (yi p 0 (j6 d 0))) 48) (brn (jQ (jc a 0)) (brn (jQ (jc a 1)) (brn (jQ (jc a 2)) (brn (jO ((jA (yi p 0 (j6 d 0)))+(jA [[jc a 0,jc a 1,jc a 2]])) 48) (kB (zS p) (kY p 0) none λf=>kB 0 f (some e) λe=>brn (jO ((jA (j4 (yi p 0 (j6 d 0)) [[jc a 0,jc a 1,jc a 2]]))+(jA (yi p (0+e) (j6 f e)))) 48) (jC c (vi 1) λc=>jbv b c (j4 (j4 (yi p 0 (j6 d 0)) [[jc a 0,jc a 1,jc a 2]]) (yi p (0+e) (j6 f e))) q) none) none) none) none) none) none)
def e_7(a:A)(b:A)(c:A)(d:A)(e:A)(p:Xc)(q:Xc):Xe:=jW a b λf=>jW a c λg=>zm a (jz 3 f g) λf=>zm a (jbr 3 f) λf=>yn a 87 [d,f] λd=>zm a (jq .lss false d (vi 0)) λd=>yU a d (vb false) (jC e (vi 1) λa=>jg7 b c a p q) (K7 e (qS p) λa=>jx a true λ_=>jW a e λd=>jx a true λf=>brn f (QK (jA p) d λd=>zm a (y5 p d 0 3) λd=>e_8 a b c d p q e) (zm a (jbr 3 (A.val undef)) λd=>e_8 a b c d p q e))
def e_9(a:A)(b:A)(c:A)(d:A):Xe:=JK a (JK b (jh (vi 0)) (jh (vi (- 1)))) (JK b (jh (vi 1)) (jL c d (jh (vi (- 1))) (yr c d (jh (vi 1)) (jh (vi 0)))))
def js6(a:A)(b:A)(c:A)(p:Xc):Xe:=jL a b (qu 2 2 c a λd=>jd 2 d λd=>(jdm (jc d 0) (jc d 1) p).bind λd=>JU 1 d 0 λd=>jC a (vi 1) λa=>jag c b a d) (some (A.top,[A.sl 1 p]))
def js7(p:Xc)(a:A)(b:A)(c:A):Xe:=QK (jA p) a λa=>kRN p a 1 2 λa=>kF 91 [a,A.agg [b,c]] λa=>some (A.top,[a,A.sl 259 p])
def js8(a:A)(b:A)(c:A)(p:Xc):Xe:=brn (jQ a) (brn (jQ b) (brn (jQ c) (brn (jQ a) (brn (jQ b) (brn (jQ c) (brn (jO ((jA p)+(jA [[a,b,c]])) 56) (some (A.top,[vb true,A.sl 259 (j4 p [[a,b,c]])])) none) none) none) none) none) none) none
def jta:Xe:=((pNo (vb false)).bind λ_=>some [[]]).bind λa=>some (A.top,vb false::(slL [259] a))
def js9(a:A)(b:A)(c:A)(p:Xc)(d:A)(e:A):Xe:=Yf a b (qu 2 2 b a λf=>qu 2 2 c a λg=>(jBm f g p).bind λf=>kHD f 0 λg=>JU 259 f 1 λf=>JK g (K9 g jta (jC a (vi 1) λa=>jBY a d b e c f)) (K9 g jta (jC a (vi 1) λa=>jF7 a d b e c))) (some (A.top,[vb true,A.sl 259 p]))
def jtb(a:A)(b:A)(c:A)(p:Xc)(d:A)(e:A):Xe:=Yf a b (qu 2 2 b a λf=>qu 2 2 c a λg=>(jBm f g p).bind λf=>kHD f 0 λg=>JU 259 f 1 λf=>JK g (K9 g jta (jC a (vi 1) λa=>jCl a d b e c f)) (K9 g jta (jC a (vi 1) λa=>jF8 a d b e c))) (some (A.top,[vb true,A.sl 259 p]))
def jtc(a:A):Xe:=brn (jQ a) (brn (jQ a) (jh (A.agg [a,A.sl 2 []])) none) none
def jp8(a:Xd)(p:Xc):Xe:=brn (jQ (jc a 0)) (some (A.top,[jc a 0,A.sl 66 p])) none
def jp9(a:A)(b:A)(p:Xc):Xe:=brn (jQ a) (some (A.top,[a,b,vb true,A.sl 66 p])) none
def jtd(a:A)(p:Xc)(b:A)(c:A)(d:A)(e:A)(q:Xc):Xe:=(jy2 (A.agg [a,A.sl 2 p]) b c).bind λf=>kHD f 0 λg=>kHD f 1 λh=>JU 578 f 2 λf=>brn (yb g) (brn (yb h) (JK h (brn (jQ g) (K9 h (jp9 a d p) (yY d (vi 50) λa=>jx a false λ_=>zL a ((G 68 [A.agg [g,A.sl 2 f]]).bind (fin true)) λh=>zL a (Zl .not h) λh=>yU a (vb true) h (some (A.top,[sv [],vi 0,vb false,A.sl 66 []])) (brn (jQ g) (jC d (vi 1) λa=>jEG b c a e g q f) none))) none) (brn (jQ g) (K9 h (jp9 a d p) (yY d (vi 50) λa=>jx a false λ_=>jx a false λf=>brn f none (zL a (Zl .not (A.val undef)) λf=>yU a (vb true) f (some (A.top,[sv [],vi 0,vb false,A.sl 66 []])) (brn (jQ g) (jC d (vi 1) λa=>jGz b c a e g q) none)))) none)) none) none
def jte(a:A)(b:A)(c:A):Xe:=jaK a b λb=>jW b a λa=>jW b c λc=>zm b (jq .leq false a c) λa=>ko b a (vb false) λa=>jh a
def jqa(a:Out):Xe:=kHD a 0 λb=>JU 66 a 1 λa=>brn (yb b) (brn (jQ b) (some (A.top,[b,vb true,A.sl 578 a])) none) none
def jtf(a:A)(p:Xc)(q:Xc):Xe:=K7 a (vi 10) λb=>jx b true λ_=>zm b ((G 54 [A.agg [A.sl 3 p]]).bind (fin true)) λc=>zm b (Zl .not c) λc=>yU b c (vb false) ((jpr (A.agg [A.sl 3 p])).bind λb=>JU 1 b 0 λb=>brn (jaB b) ((G 118 [A.sl 1 b,sv [88]]).bind λb=>zO b λb=>(jgT (A.agg [A.sl 3 p]) b).bind λb=>JU 67 b 0 λb=>jC a (vi 1) λa=>jhk a q b) none) (some (A.top,[A.sl 67 p]))
theorem cev:type_of% (And.intro @jd.eq_1 (And.intro @kIA.eq_1 (And.intro @kM.eq_1 (And.intro @ko.eq_1 (And.intro @jx.eq_1 (And.intro @ky.eq_1 (And.intro @kLN.eq_1 (And.intro @jjd.eq_1 (And.intro @jW.eq_1 (And.intro @kA.eq_1 (And.intro @zm.eq_1 (And.intro @zL.eq_1 (And.intro @yn.eq_1 (And.intro @Qg.eq_1 (And.intro @kF.eq_1 (And.intro @zO.eq_1 (And.intro @kfn.eq_1 (And.intro @QL.eq_1 (And.intro @kHD.eq_1 (And.intro @JU.eq_1 (And.intro @QK.eq_1 (And.intro @kB.eq_1 (And.intro @kRN.eq_1 (And.intro @kRG.eq_1 (And.intro @kIS.eq_1 (And.intro @kSl.eq_1 (And.intro @kRP.eq_1 (And.intro @kMk.eq_1 (And.intro @kRs.eq_1 (And.intro @kLS.eq_1 (And.intro @jC.eq_1 (And.intro @yY.eq_1 (And.intro @jaK.eq_1 (And.intro @jqy.eq_1 (And.intro @jd9.eq_1 (And.intro @K7.eq_1 (And.intro @juP.eq_1 (And.intro @K8.eq_1 (And.intro @jm7.eq_1 (And.intro @jqz.eq_1 (And.intro @jcx.eq_1 (And.intro @JK.eq_1 (And.intro @yU.eq_1 (And.intro @K9.eq_1 (And.intro @Yf.eq_1 (And.intro @kF2.eq_1 (And.intro @kFN.eq_1 (And.intro @kAP.eq_1 (And.intro @qu.eq_1 (And.intro @kIP.eq_1 (And.intro @jd8.eq_1 (And.intro @jcX.eq_1 (And.intro @jL.eq_1 (And.intro @jll.eq_1 (And.intro @yr.eq_1 (And.intro @jhF.eq_1 (And.intro @qg.eq_1 (And.intro @zZ.eq_1 (And.intro @jh.eq_1 (And.intro @zn.eq_1 (And.intro @j8.eq_1 (And.intro @jtA.eq_1 (And.intro @e_0.eq_1 (And.intro @e_1.eq_1 (And.intro @e_2.eq_1 (And.intro @e_3.eq_1 (And.intro @e_4.eq_1 (And.intro @e_5.eq_1 (And.intro @e_6.eq_1 (And.intro @e_8.eq_1 (And.intro @e_7.eq_1 (And.intro @e_9.eq_1 (And.intro @js6.eq_1 (And.intro @js7.eq_1 (And.intro @js8.eq_1 (And.intro @jta.eq_1 (And.intro @js9.eq_1 (And.intro @jtb.eq_1 (And.intro @jtc.eq_1 (And.intro @jp8.eq_1 (And.intro @jp9.eq_1 (And.intro @jtd.eq_1 (And.intro @jte.eq_1 (And.intro @jqa.eq_1 (@jtf.eq_1))))))))))))))))))))))))))))))))))))))))))))))))))))))))))))))))))))))))))))))))))))):=And.intro @jd.eq_1 (And.intro @kIA.eq_1 (And.intro @kM.eq_1 (And.intro @ko.eq_1 (And.intro @jx.eq_1 (And.intro @ky.eq_1 (And.intro @kLN.eq_1 (And.intro @jjd.eq_1 (And.intro @jW.eq_1 (And.intro @kA.eq_1 (And.intro @zm.eq_1 (And.intro @zL.eq_1 (And.intro @yn.eq_1 (And.intro @Qg.eq_1 (And.intro @kF.eq_1 (And.intro @zO.eq_1 (And.intro @kfn.eq_1 (And.intro @QL.eq_1 (And.intro @kHD.eq_1 (And.intro @JU.eq_1 (And.intro @QK.eq_1 (And.intro @kB.eq_1 (And.intro @kRN.eq_1 (And.intro @kRG.eq_1 (And.intro @kIS.eq_1 (And.intro @kSl.eq_1 (And.intro @kRP.eq_1 (And.intro @kMk.eq_1 (And.intro @kRs.eq_1 (And.intro @kLS.eq_1 (And.intro @jC.eq_1 (And.intro @yY.eq_1 (And.intro @jaK.eq_1 (And.intro @jqy.eq_1 (And.intro @jd9.eq_1 (And.intro @K7.eq_1 (And.intro @juP.eq_1 (And.intro @K8.eq_1 (And.intro @jm7.eq_1 (And.intro @jqz.eq_1 (And.intro @jcx.eq_1 (And.intro @JK.eq_1 (And.intro @yU.eq_1 (And.intro @K9.eq_1 (And.intro @Yf.eq_1 (And.intro @kF2.eq_1 (And.intro @kFN.eq_1 (And.intro @kAP.eq_1 (And.intro @qu.eq_1 (And.intro @kIP.eq_1 (And.intro @jd8.eq_1 (And.intro @jcX.eq_1 (And.intro @jL.eq_1 (And.intro @jll.eq_1 (And.intro @yr.eq_1 (And.intro @jhF.eq_1 (And.intro @qg.eq_1 (And.intro @zZ.eq_1 (And.intro @jh.eq_1 (And.intro @zn.eq_1 (And.intro @j8.eq_1 (And.intro @jtA.eq_1 (And.intro @e_0.eq_1 (And.intro @e_1.eq_1 (And.intro @e_2.eq_1 (And.intro @e_3.eq_1 (And.intro @e_4.eq_1 (And.intro @e_5.eq_1 (And.intro @e_6.eq_1 (And.intro @e_8.eq_1 (And.intro @e_7.eq_1 (And.intro @e_9.eq_1 (And.intro @js6.eq_1 (And.intro @js7.eq_1 (And.intro @js8.eq_1 (And.intro @jta.eq_1 (And.intro @js9.eq_1 (And.intro @jtb.eq_1 (And.intro @jtc.eq_1 (And.intro @jp8.eq_1 (And.intro @jp9.eq_1 (And.intro @jtd.eq_1 (And.intro @jte.eq_1 (And.intro @jqa.eq_1 (@jtf.eq_1))))))))))))))))))))))))))))))))))))))))))))))))))))))))))))))))))))))))))))))))))))
theorem jCW(r0:Xc):jyi r0=jse [V.row 0] [.row 1 r0]:=Eq.trans (jsM (x:=jyy) rfl) rfl
theorem jvY(r0:Xc):jkS r0=extRun K (MM K) (Go.Proofs.YtkkcepmpbackoaaGreatDoor.Abs.sfT 3) [V.row 0,V.fn 96 []] [.tre true 3 r0]:=jsM rfl
theorem jvZ(r0:Xc):jkT r0=extRun K (MM K) (Go.Proofs.YtkkcepmpbackoaaGreatDoor.Abs.sfT 3) [V.row 0,V.fn 96 []] [.tre false 3 r0]:=jsM rfl
theorem jv0(r0:Xc):jgX r0=extRun K (MM K) (Go.Proofs.YtkkcepmpbackoaaGreatDoor.Abs.cfT 3 164) [V.row 0,V.fn 164 []] [.tre true 3 r0]:=jsM rfl
theorem g10:G 10 [a,b]=jd 1 a λa=>jd 1 b λb=>kF 30 [jc a 0,jc b 0] λa=>K9 a (jh (vb false)) (jh (vb true)):=gq Tryz.func10
theorem jzy:G 104 [a]=jd 2 a λa=>brn (jQ (jc a 0)) (brn (jQ (jc a 0)) (jgY (vi 0) (jc a 0) (jc a 1) (sv []) (jc a 0) [] []) none) none:=gq Tryz.func104
theorem jqE:jgY a b c d e p q=Yf a c (qu 2 2 c a λf=>(G 104 [f]).bind λf=>zO f λf=>jd 2 f λf=>brn (jO ((jA q)+(jA [[jc f 0,jc f 1]])) 40) (jC a (vi 1) λa=>jgY a b c d e p (j4 q [[jc f 0,jc f 1]])) none) (brn (jQ e) (jh (A.agg [e,A.sl 2 q])) none):=hq Tryz.func104
theorem jEc:jA5 a b=brn (jQ a) (brn (jQ b) (brn (jQ a) (brn (jQ a) (jsA (vi 0) a b (sv []) a [] []) none) none) none) none:=vq Tryz.func104
theorem jBD:jsA a b c d e p q=Yf a c (qu 2 2 c a λf=>(G 104 [f]).bind λf=>zO f λf=>jd 2 f λf=>brn (jO ((jA q)+(jA [[jc f 0,jc f 1]])) 40) (jC a (vi 1) λa=>jsA a b c d e p (j4 q [[jc f 0,jc f 1]])) none) (brn (jQ e) (some (A.top,[e,A.sl 2 q])) none):=hq Tryz.func104
theorem jHR:G 105 [a,b,c]=jd 2 a λa=>(G 155 [j8 a,A.sl 1 []]).bind λd=>zO d λd=>jCN b c d (vi 0) (jc a 0) (jc a 1) (sv []) []:=gq Tryz.func105
theorem jFt:jCN a b c d e f g p=Yf d c (kIP 1 c d λh=>ky h λh=>yY h (vi 0) λh=>jW h b λi=>zm h (Zl .not i) λi=>yU h i (vb false) (jC d (vi 1) λd=>jCN a b c d e f g p) (kIP 1 c d λh=>kF2 72 [A.agg [e,f],h] λh _=>jd 2 h λh=>jCP a b c d (vi 0) e f g (jc h 0) (jc h 1) p)) (brn (jQ e) (brn (jQ f) (jh (A.tup [A.agg [e,f],vb false])) none) none):=hq Tryz.func105
theorem jGe:jCP a b c d e f g h i j p=Yf e a (jcX 2 a e 1 λk=>qu 2 2 k (vi 0) λk=>(jDD k i j []).bind λk=>kHD k 0 λl=>JU 259 k 1 λk=>JK l (JK l (kIP 1 c d λb=>(G 157 [A.sl 3 k]).bind λc=>zO c λc=>jcX 2 a e 1 λa=>qu 2 2 a (vi 1) λa=>(G 74 [c,a]).bind λa=>zO a λa=>kF 77 [A.agg [f,g],b,a] λa=>jd 2 a λa=>jh (A.tup [j8 a,vb true])) (jC e (vi 1) λe=>jCP a b c d e f g h i j p)) (JK l (kIP 1 c d λ_=>none) (jC e (vi 1) λe=>jCP a b c d e f g h i j p))) (jC d (vi 1) λd=>jCN a b c d f g h p):=hq Tryz.func105
theorem jzz:G 106 [a]=jd 2 a λa=>kF 75 [j8 a] λb=>jx b false λ_=>Qg b 86 [j8 a] λa=>ko b (vb true) a λa=>jh a:=gq Tryz.func106
theorem jzA:G 107 [a,b]=ky a λc=>jgZ a b c (vi 0):=gq Tryz.func107
theorem jqF:jgZ a b c d=jL d c (qu 2 2 a d λe=>(DX.run K (MM K) (.callc b [e] false)).bind λe=>JK e (jh d) (jC d (vi 1) λd=>jgZ a b c d)) (jh (vi (- 1))):=hq Tryz.func107
theorem jxU:G 108 [a]=jd 2 a λa=>kF 56 [j8 a] λb=>JK b (ky (jc a 1) λb=>yY b (vi 2) λb=>jx b true λ_=>yn b 68 [j8 a] λc=>ko b c (vb false) λb=>jx b true λ_=>jW b (jc a 1) λc=>zm b (jz 2 c (vi 0)) λc=>zm b (jbr 2 c) λc=>yn b 158 [c] λc=>ko b c (vb false) λb=>jx b true λ_=>jW b (jc a 1) λa=>zm b (jz 2 a (vi 1)) λa=>zm b (jbr 2 a) λa=>yn b 158 [a] λa=>ko b a (vb false) λa=>jh a) (kF 159 [jc a 0] λb=>jx b true λ_=>yn b 160 [j8 a] λa=>ko b a (vb false) λa=>jh a):=gq Tryz.func108
theorem jpS:jgR a=ky a λb=>qg b (vi 0) (some (A.top,[A.sl 66 []])) (ky a λb=>kMk 40 b b λb=>ky a λc=>Q8 a c (vi 0) (JM b [sv [],A.sl 2 []])):=vq Tryz.func109
theorem jji:Q8 a b c p=jL c b (qu 2 2 a c λd=>jd 2 d λd=>(jfA (j8 d)).bind λd=>kHD d 0 λe=>JU 66 d 1 λd=>brn (yb e) (QK (jA p) c λf=>brn (jQ e) (brn (kO e) (kRG p f λg=>jC c (vi 1) λc=>Q8 a b c (yh p f (zf g 0 [e,A.sl 2 d]))) none) none) none) (some (A.top,[A.sl 66 p])):=hq Tryz.func109
theorem jGS:jBP a b c p=jd 2 a λa=>brn (jQ b) (brn (jQ c) (ky (jc a 1) λd=>yY d (vi 0) λd=>jx d true λ_=>yn d 81 [j8 a] λe=>yU d e (vb false) ((jez none true false [sv [],A.sl 2 []] (A.mp p) (jc a 0)).bind λd=>kM d 0 λe=>kM d 1 λd=>jd 2 e λe=>(jrN none p (jc a 0) (A.agg [b,c])).bind λa=>QL d λd=>jx d false λ_=>jx d false λ_=>Qg d 99 [j8 e,A.agg [b,c]] λb=>ko d (vb true) b λb=>some (A.top,[b,A.sl 128 a])) (K8 (jc a 0) b λd=>jx d false λ_=>kA d (jc a 1) λe=>zL d (zG e) λe=>jx d false λ_=>kA d c λf=>zL d (zG f) λf=>zL d (jq .neq false e f) λe=>yU d (vb true) e (some (A.top,[vb false,A.sl 128 p])) (ky (jc a 1) λd=>jBn (jc a 1) d (vi 0) b c p))) none) none:=vq Tryz.func110
theorem jES:jBn a b c d e p=jL c b (qu 2 2 a c λf=>jd 2 f λf=>qu 2 2 e c λg=>(jp2 (jc f 0) (jc f 1) g p).bind λf=>kHD f 0 λg=>JU 128 f 1 λf=>K9 g (some (A.top,[vb false,A.sl 128 f])) (jC c (vi 1) λc=>jBn a b c d e f)) (some (A.top,[vb true,A.sl 128 p])):=hq Tryz.func110
theorem jGT:jp2 a b c p=brn (jQ a) (brn (jQ b) (jd 2 c λc=>ky b λd=>yY d (vi 0) λd=>jx d true λ_=>yn d 81 [A.agg [a,b]] λe=>yU d e (vb false) ((jez none true false [sv [],A.sl 2 []] (A.mp p) a).bind λb=>kM b 0 λd=>kM b 1 λb=>jd 2 d λd=>(jrN none p a (j8 c)).bind λa=>QL b λb=>jx b false λ_=>jx b false λ_=>Qg b 99 [j8 d,j8 c] λc=>ko b (vb true) c λb=>some (A.top,[b,A.sl 128 a])) (K8 a (jc c 0) λa=>jx a false λ_=>kA a b λd=>zL a (zG d) λd=>jx a false λ_=>kA a (jc c 1) λe=>zL a (zG e) λe=>zL a (jq .neq false d e) λd=>yU a (vb true) d (some (A.top,[vb false,A.sl 128 p])) (ky b λa=>jBq b a (vi 0) (jc c 0) (jc c 1) p))) none) none:=vq Tryz.func110
theorem jET:jBq a b c d e p=jL c b (qu 2 2 a c λf=>jd 2 f λf=>qu 2 2 e c λg=>(jp2 (jc f 0) (jc f 1) g p).bind λf=>kHD f 0 λg=>JU 128 f 1 λf=>K9 g (some (A.top,[vb false,A.sl 128 f])) (jC c (vi 1) λc=>jBq a b c d e f)) (some (A.top,[vb true,A.sl 128 p])):=hq Tryz.func110
theorem jGU:jDx a b=jd 2 a λa=>(jez none true false [sv [],A.sl 2 []] b (jc a 0)).bind λc=>kM c 0 λd=>kM c 1 λc=>jd 2 d λd=>jx c true λ_=>jW c (jc a 1) λe=>zm c (zG e) λe=>zm c (jq .eql false e (vi 0)) λe=>yU c e (vb false) ((jfA (j8 d)).bind λa=>kHD a 0 λb=>JU 66 a 1 λa=>brn (yb b) (brn (jQ b) (some (A.top,[b,A.sl 66 a])) none) none) (brn (jQ (jc a 0)) (brn (jQ (jc a 0)) (ky (jc a 1) λc=>jBS b (jc a 1) c (vi 0) (sv []) (jc a 0) [] []) none) none):=vq Tryz.func111
theorem jDE:jBS a b c d e f p q=jL d c (qu 2 2 b d λg=>jd 2 g λg=>(jDx (j8 g) a).bind λg=>kHD g 0 λh=>JU 66 g 1 λg=>brn (yb h) (brn (jQ h) (brn (kO h) (brn (jO ((jA q)+(jA [[h,A.sl 2 g]])) 40) (jC d (vi 1) λd=>jBS a b c d e f p (j4 q [[h,A.sl 2 g]])) none) none) none) none) (brn (jQ f) (some (A.top,[f,A.sl 66 q])) none):=hq Tryz.func111
theorem jzB:G 112 [a]=jd 2 a λa=>ky (jc a 1) λb=>jg0 (vi 1) (jc a 1) b (vi 0):=gq Tryz.func112
theorem jln:jg0 a b c d=jL d c (qu 2 2 b d λe=>jd 2 e λe=>yr a (vi 30) (jh a) (kF 112 [j8 e] λe=>jC a e λa=>jC d (vi 1) λd=>jg0 a b c d)) (jh a):=hq Tryz.func112
theorem jzC:G 113 [a]=jd 2 a λa=>ky (jc a 1) λb=>jg1 (vi 0) (jc a 1) b (vi 0):=gq Tryz.func113
theorem jqG:jg1 a b c d=jL d c (qu 2 2 b d λe=>jd 2 e λe=>kF 113 [j8 e] λe=>(jlK a e).bind λa=>jC d (vi 1) λd=>jg1 a b c d) (jC a (vi 1) λa=>jh a):=hq Tryz.func113
theorem jzD:G 114 [a]=jd 1 a λa=>kF 53 [zn a] λb=>e_0 b a:=gq Tryz.func114
theorem jvP:jgS a=ky a λb=>Q9 a b (vi 0) [] []:=vq Tryz.func115
theorem jjj:Q9 a b c p q=jL c b (e_1 a c q b p) ((jkS q).bind λa=>JU 67 a 0 λa=>(jgX a).bind λa=>JU 67 a 0 λa=>some (A.top,[A.sl 67 a])):=hq Tryz.func115
theorem jjk:jaa a b c p q=jL c b (e_1 a c q b p) ((jkT q).bind λa=>JU 67 a 0 λa=>(jgX a).bind λa=>JU 67 a 0 λa=>some (A.top,[A.sl 67 a])):=hq Tryz.func115
theorem jvQ:jkP a=brn (jQ a) (ky a λb=>jab a b (vi 0) [] []) none:=vq Tryz.func116
theorem jjl:jab a b c p q=jL c b (qu 3 3 a c λd=>jd 3 d λd=>(jgW (jc d 0) (jc d 1) (jc d 2)).bind λd=>kHD d 0 λe=>kHD d 1 λf=>JU 66 d 2 λd=>brn (jQ e) (brn (jQ f) (brn (kO e) (brn (kO f) (brn (jO ((jA q)+(jA [[e,f,A.sl 2 d]])) 48) (jC c (vi 1) λc=>jab a b c p (j4 q [[e,f,A.sl 2 d]])) none) none) none) none) none) (some (A.top,[A.sl 67 q])):=hq Tryz.func116
theorem jvR:jgT a b=jd 1 a λa=>ky (jc a 0) λc=>jac b (jc a 0) c (vi 0) [] []:=vq Tryz.func117
theorem jjm:jac a b c d p q=jL d c (qu 3 3 b d λe=>jd 3 e λe=>kF 165 [A.agg [jc e 1,jc e 2],a] λf=>(zk (kW (K.at 117) 62) [vb false,sv [],A.sl 2 []] [(0,jc e 0),(1,f)]).bind λe=>jd 3 e λe=>brn (jO ((jA p)+(jA [[jc e 0,jc e 1,jc e 2]])) 48) (jC d (vi 1) λd=>jac a b c d (j4 p [[jc e 0,jc e 1,jc e 2]]) q) none) ((jgS (A.sl 3 p)).bind λa=>JU 67 a 0 λa=>some (A.top,[A.sl 67 a])):=hq Tryz.func117
theorem jzE:G 118 [a,b]=ky a λc=>jg2 b a c (vi 0) []:=gq Tryz.func118
theorem jqH:jg2 a b c d p=jL d c (kIP 1 b d λe=>kF 98 [d] λf=>jC a f λf=>(jrN none p e f).bind λe=>jC d (vi 1) λd=>jg2 a b c d e) (jh (A.mp p)):=hq Tryz.func118
theorem jzF:G 119 [a,b,c]=jd 1 a λa=>jg3 b c (vi 0) (jc a 0) [] []:=gq Tryz.func119
theorem jqI:jg3 a b c d p q=Yf c d (jcX 3 d c 0 λe=>jd8 2 3 d c 1 λf=>kF 166 [f,a,b] λf=>(zk (kW (K.at 119) 62) [vb false,sv [],A.sl 2 []] [(0,e),(1,f)]).bind λe=>jd 3 e λe=>brn (jO ((jA p)+(jA [[jc e 0,jc e 1,jc e 2]])) 48) (jC c (vi 1) λc=>jg3 a b c d (j4 p [[jc e 0,jc e 1,jc e 2]]) q) none) ((G 141 [A.sl 3 p]).bind λa=>zO a λa=>jd 1 a λa=>jh (zn a)):=hq Tryz.func119
theorem jxr:jmk a p=(jpl a p).bind λa=>kHD a 0 λb=>JU 67 a 1 λa=>some (A.top,[b,A.sl 67 a]):=vq Tryz.func11
theorem g12:G 12 [a,b]=jd 1 a λa=>kF 32 [jc a 0,b] λa=>jL a (vi 0) (jh (vi (- 1))) (jh a):=gq Tryz.func12
theorem jzG:G 120 [a]=jaK a (vy 97) λb=>jW b a λc=>zm b (jq .leq false c (vy 122)) λc=>ko b c (vb false) λb=>kA b a λc=>zL b (jq .geq false c (vy 48)) λc=>kA b c λc=>jW c a λa=>zm c (jq .leq false a (vy 57)) λa=>zL b (JC c a (vb false)) λa=>ko b (vb true) a λa=>jh a:=gq Tryz.func120
theorem jzH:G 121 [a,b]=jd 1 a λa=>jdr b (vi 0) (jc a 0):=gq Tryz.func121
theorem jqJ:jdr a b c=Yf b c (jcX 3 c b 0 λd=>qg d a (jh b) (jC b (vi 1) λb=>jdr a b c)) (jh (vi (- 1))):=hq Tryz.func121
theorem jzI:G 122 [a]=jd 2 a λa=>kF 167 [j8 a,vi 30] λb=>jd9 b (vi 30) λb=>jx b true λ_=>yn b 168 [j8 a] λa=>zm b (jq .leq false a (vi 8)) λa=>ko b a (vb false) λa=>jh a:=gq Tryz.func122
theorem jzJ:G 123 [a]=jd 2 a λa=>kF 73 [jc a 0] λb=>JK b (ky (jc a 1) λa=>yY a (vi 0) λa=>jh a) (kFN 133 [jc a 0] λb=>jx b false λ_=>kA b (jc a 1) λc=>zL b (zG c) λc=>zL b (jq .gtr false c (vi 4)) λc=>yU b (vb true) c (jh (vb false)) (jg4 (vi 0) (jc a 0) (jc a 1))):=gq Tryz.func123
theorem jqK:jg4 a b c=Yf a c (qu 2 2 c a λd=>kF 123 [d] λd=>K9 d (jh (vb false)) (jC a (vi 1) λa=>jg4 a b c)) (jh (vb true)):=hq Tryz.func123
theorem jE7:G 124 [a,b]=jd 2 b λb=>kF 73 [jc b 0] λc=>K9 c (kF 169 [a,jc b 0] λa=>jyA a (vi 0) (jc b 0) (jc b 1)) (jyA a (vi 0) (jc b 0) (jc b 1)):=gq Tryz.func124
theorem jC5:jyA a b c d=Yf b d (qu 2 2 d b λe=>kF 124 [a,e] λa=>jC b (vi 1) λb=>jyA a b c d) (jh a):=hq Tryz.func124
theorem jE8:G 125 [a,b,c]=jd 3 a λa=>jd 2 b λb=>jd 2 c λc=>kFN 170 [jtA a] λd=>jx d false λ_=>jx d false λ_=>Qg d 171 [jtA a,j8 b] λe=>zL d (Zl .not e) λe=>ko d (vb true) e λd=>jx d false λ_=>jx d false λ_=>Qg d 171 [jtA a,j8 c] λe=>zL d (Zl .not e) λe=>yU d (vb true) e (jh (A.tup [vi 0,vb false])) (kF 91 [j8 b,j8 c] λd=>kF 173 [jtA a,j8 b,j8 c] λe=>kF 173 [jtA a,j8 c,j8 b] λa=>kF 172 [d,e,a] λa=>jh (A.tup [a,vb true])):=gq Tryz.func125
theorem jzK:G 126 [a]=jaK a (vy 65) λb=>jW b a λa=>zm b (jq .leq false a (vy 90)) λa=>ko b a (vb false) λa=>jh a:=gq Tryz.func126
theorem jzL:G 127 [a,b]=jd 1 a λa=>jd 2 b λb=>ky (jc b 1) λc=>qg c (vi 0) (kF2 151 [zn a,jc b 0] λa c=>jd 2 a λa=>JK c (kF 66 [j8 a] λa=>jd 2 a λa=>jh (j8 a)) (e_2 b)) (ky (jc b 1) λc=>kMk 40 c c λc=>brn (jQ (jc b 0)) (brn (jQ (jc b 0)) (ky (jc b 1) λd=>jkU (jc b 1) d (vi 0) (jc a 0) (sv []) (jc b 0) (JM c [sv [],A.sl 2 []]) []) none) none):=gq Tryz.func127
theorem jwm:jkU a b c d e f p q=e_3 c b a d p e f q:=hq Tryz.func127
theorem jqL:jkV a b c d e f p q=e_3 c b a d q e f p:=hq Tryz.func127
theorem jEd:jin a b p=brn (jQ a) (brn (jQ b) (kF 159 [a] λc=>jx c true λ_=>jx c true λ_=>jW c a λd=>zm c ((G 174 [A.sl 1 p,d]).bind (fin true)) λd=>zm c (Zl .not d) λd=>yU c d (vb false) (brn (jQ a) (brn (jO ((jA p)+(jA [[a]])) 16) (ky b λc=>jsB b c (vi 0) (j4 p [[a]])) none) none) (ky b λa=>jyF b a (vi 0) p)) none) none:=vq Tryz.func128
theorem jBE:jsB a b c p=e_4 c b a p:=hq Tryz.func128
theorem jC6:jyF a b c p=e_4 c b a p:=hq Tryz.func128
theorem g13:G 13 [a,b]=ky a λc=>jcx b c λb=>jL b (vi 0) (jh (vi (- 1))) (jiq a b (vi 0)):=gq Tryz.func13
theorem juT:jiq a b c=Yf c a (qu 2 2 a c λd=>kF 33 [d,b] λb=>jL b (vi 0) (jh (vi (- 1))) (jC c (vi 1) λc=>jiq a b c)) (jh b):=hq Tryz.func13
theorem jEe:jBU a p=jL a (vi 0) none ((jaW .u64 (qS p)).bind λb=>(jaW .u64 a).bind λa=>kF2 177 [b,a] λa b=>jqy a (A.val (.int .u64 0)) λa=>kA a b λc=>zL a (jq .gtr false c (A.val (.int .u64 9223372036854775807))) λc=>yU a (vb true) c none ((jaW .i64 b).bind λa=>kMk 8 a a λa=>jsC (jAG p (zS (JM a [vi 0]))) (yd (JM a [vi 0]) 0 (jyo p (zS (JM a [vi 0])))) p)):=vq Tryz.func130
theorem juK:jsC a p q=jL a (qS p) (kB (zS p) (kY p 0) none λb=>kB 0 b (some a) λc=>kB (zS p) (kY p 0) (some a) λd=>jC a (jAG (yi p 0 (j6 d 0)) (j6 b c)) λa=>jsC a (yd p (0+c) (jyo (yi p 0 (j6 d 0)) (j6 b c))) q) (some (A.top,[A.sl 1 p])):=hq Tryz.func130
theorem jEz:G 131 [a,b,c]=jd 3 a λa=>jd 2 b λb=>jd 2 c λc=>kF 99 [j8 b,j8 c] λd=>kfn true (G 178 [d,A.fn 179 [A.elt [jc a 0,jc a 1,jc a 2] 0,A.elt [jc b 0,jc b 1] 0,A.elt [jc c 0,jc c 1] 0],A.fn 181 [A.elt [jc a 0,jc a 1,jc a 2] 0,A.elt [jc c 0,jc c 1] 0,A.elt [jc b 0,jc b 1] 0]]) λa=>jh a:=gq Tryz.func131
theorem jzM:G 133 [a]=kLS a λb=>kFN 47 [b,vi 1,vi 6] λb=>kA b a λc=>zL b (zj c (vi 0)) λc=>zL b (jq .lss false c (vy 97)) λc=>ko b (vb true) c λb=>kA b a λc=>zL b (zj c (vi 0)) λc=>zL b (jq .gtr false c (vy 122)) λc=>yU b (vb true) c (jh (vb false)) (yY a (sv [116,114,117,101]) λb=>JK b (JK b (jh (vb false)) (qD a (vi 1))) (yY a (sv [102,97,108,115,101]) λb=>JK b (JK b (jh (vb false)) (qD a (vi 1))) (yY a (sv [116,114,117,116,104]) λb=>JK b (JK b (jh (vb false)) (qD a (vi 1))) (yY a (sv [98,111,116,104]) λb=>JK b (JK b (jh (vb false)) (qD a (vi 1))) (yY a (sv [101,105,116,104,101,114]) λb=>JK b (JK b (jh (vb false)) (qD a (vi 1))) (yY a (sv [105,102]) λb=>JK b (JK b (jh (vb false)) (qD a (vi 1))) (yY a (sv [97,108,108]) λb=>JK b (JK b (jh (vb false)) (qD a (vi 1))) (qg a (sv [115,111,109,101]) (jh (vb false)) (qD a (vi 1)))))))))):=gq Tryz.func133
theorem jqM:qD a b=kLS a λc=>jL b c (kIS a b λc=>kFN 120 [c] λc=>jW c a λd=>jW c b λe=>zm c (zj d e) λd=>zm c (jq .neq false d (vy 95)) λd=>yU c d (vb false) (jh (vb false)) (jC b (vi 1) λb=>qD a b)) (jh (vb true)):=hq Tryz.func133
theorem jzN:G 134 [a,b]=jd 2 a λa=>jd 2 b λb=>kF 73 [jc a 0] λc=>kF 73 [jc b 0] λd=>jW c d λe=>zm c (Zl .not e) λe=>yU c e (vb false) (jh (vi (- 1))) (QL c λc=>jW c d λd=>yU c d (vb false) (jh (vi 1)) (zZ (jc a 0) (jc b 0) (kF 182 [jc a 0,jc b 0] λa=>jh a) (ky (jc a 1) λc=>Yf c (jc b 1) (jh (vi (- 1))) (ky (jc a 1) λc=>ky (jc b 1) λd=>yr c d (jh (vi 1)) (jds (vi 0) (jc a 0) (jc a 1) (jc b 0) (jc b 1)))))):=gq Tryz.func134
theorem jqN:jds a b c d e=Yf a c (qu 2 2 c a λf=>qu 2 2 e a λg=>kF 134 [f,g] λf=>zZ f (vi 0) (jh f) (jC a (vi 1) λa=>jds a b c d e)) (jh (vi 0)):=hq Tryz.func134
theorem jvS:jgU a p=jd 2 a λa=>kF 73 [jc a 0] λb=>JK b (kfn true (G 137 [A.sl 1 p,jc a 0]) λb=>JK b (some (A.top,[A.sl 1 p])) (brn (jQ (jc a 0)) (brn (jO ((jA p)+(jA [[jc a 0]])) 16) (some (A.top,[A.sl 1 (j4 p [[jc a 0]])])) none) none)) (jad (vi 0) (jc a 0) (jc a 1) p):=vq Tryz.func135
theorem jqO:jad a b c p=e_5 a c p b:=hq Tryz.func135
theorem jea:jae a b c p=e_5 a c p b:=hq Tryz.func135
theorem jzP:G 137 [a,b]=jg6 a b (vi 0):=gq Tryz.func137
theorem jqQ:jg6 a b c=Yf c a (kIP 1 a c λd=>qg d b (jh (vb true)) (jC c (vi 1) λc=>jg6 a b c)) (jh (vb false)):=hq Tryz.func137
theorem jzQ:G 138 [a]=jd 2 a λa=>kF 183 [A.sl 1 [],j8 a] λa=>jh a:=gq Tryz.func138
theorem g14:G 14 [a,b]=jd 1 a λa=>kFN 25 [zn a] λc=>kA c b λd=>Qg c 34 [d] λd=>zL c (Zl .not d) λd=>yU c (vb true) d (jh (A.tup [A.agg [A.sl 3 []],vb false])) (kF2 35 [zn a,b] λa b=>jd 1 a λa=>jh (A.tup [zn a,b])):=gq Tryz.func14
theorem jvT:jkQ a b p=jd 2 b λb=>qg (jc b 0) a (some (A.top,[A.sl 3 p])) (jdt a (vi 0) (jc b 0) (jc b 1) p []):=vq Tryz.func140
theorem jqR:jdt a b c d p q=K7 b (qS p) λe=>jx e true λ_=>jx e true λ_=>jW e b λf=>jx e true λg=>brn g (QK (jA p) f λf=>jx e true λ_=>zm e (jgh p f 0) λf=>e_6 e a f b c d p q) (zm e (Jk (A.val undef) 0) λf=>zm e (kU f) λf=>e_6 e a f b c d p q):=hq Tryz.func140
theorem jzS:G 141 [a]=jbv a (vi 0) [] []:=gq Tryz.func141
theorem jqS:jbv a b p q=Yf b a (jg7 a b (vi 0) p q) (jh (A.agg [A.sl 3 p])):=hq Tryz.func141
theorem jqT:jg7 a b c p q=K7 c (qS p) λd=>jx d true λ_=>jW d c λe=>jx d true λf=>brn f (QK (jA p) e λe=>zm d (y5 p e 0 3) λe=>e_7 d a b e c p q) (zm d (jbr 3 (A.val undef)) λe=>e_7 d a b e c p q):=hq Tryz.func141
theorem jzT:G 142 [a]=ky a λb=>jdu (vi 0) a b (vi 0):=gq Tryz.func142
theorem jlo:jdu a b c d=jL d c (kIP 1 b d λe=>zZ e a (jh e) (jC d (vi 1) λd=>jdu a b c d)) (jh a):=hq Tryz.func142
theorem jzU:G 143 [a,b]=jd 2 a λa=>jd 2 b λb=>kF 81 [j8 a] λc=>kF 81 [j8 b] λd=>jW c d λe=>zm c (Zl .not e) λe=>yU c e (vb false) (jh (vi (- 1))) (jW d c λc=>zm d (Zl .not c) λc=>yU d c (vb false) (jh (vi 1)) (kF 154 [jc a 0,jc b 0] λc=>ky (jc a 1) λd=>ky (jc b 1) λe=>kF 144 [d,e] λd=>brn (jQ c) (brn (jQ d) (kfn true (G 142 [A.sl 1 [[c],[d]]]) λc=>zZ c (vi 0) (jh c) (kF 185 [jc a 1,jc b 1,A.fn 143 []] λa=>jh a)) none) none)):=gq Tryz.func143
theorem jzV:G 144 [a,b]=kF 186 [a] λc=>kF 186 [b] λd=>e_9 c d a b:=gq Tryz.func144
theorem jzW:G 145 [a]=JK a (jh (vi 1)) (jh (vi 0)):=gq Tryz.func145
theorem jvV:jdm a b p=brn (jQ a) (brn (jQ b) (ky b λc=>yY c (vi 0) λc=>jx c true λ_=>yn c 81 [A.agg [a,b]] λd=>yU c d (vb false) (kfn true (G 174 [A.sl 1 p,a]) λb=>K9 b (brn (jQ a) (brn (jO ((jA p)+(jA [[a]])) 16) (some (A.top,[A.sl 1 (j4 p [[a]])])) none) none) (some (A.top,[A.sl 1 p]))) (ky b λa=>jaf b a (vi 0) p)) none) none:=vq Tryz.func146
theorem jqU:jaf a b c p=js6 c b a p:=hq Tryz.func146
theorem jec:jag a b c p=js6 c b a p:=hq Tryz.func146
theorem jzX:G 148 [a,b,c]=ky a λd=>ky b λe=>zZ d e (jh (vb false)) (ky a λd=>jg8 b c a d (vi 0)):=gq Tryz.func148
theorem jqV:jg8 a b c d e=jL e d (qu 2 2 c e λf=>jd 2 f λf=>qu 2 2 a e λg=>jd 2 g λg=>(DX.run K (MM K) (.callc b [j8 f,j8 g] false)).bind λf=>K9 f (jh (vb false)) (jC e (vi 1) λe=>jg8 a b c d e)) (jh (vb true)):=hq Tryz.func148
theorem jz0:G 151 [a,b]=jd 1 a λa=>kF2 190 [jc a 0,b,A.fn 191 []] λb c=>K9 c (jh (A.tup [A.agg [sv [],A.sl 2 []],vb false])) (jd8 2 3 (jc a 0) b 1 λa=>jd 2 a λa=>jh (A.tup [j8 a,vb true])):=gq Tryz.func151
theorem jz2:G 154 [a,b]=kF 193 [a] λc=>kF 193 [b] λd=>e_9 c d a b:=gq Tryz.func154
theorem jHS:G 155 [a,b]=jd 2 a λa=>jEE b (vi 0) (jc a 0) (jc a 1) []:=gq Tryz.func155
theorem jGf:jEE a b c d p=Yf b d (qu 2 2 d b λe=>(jEy a).bind λf=>JU 1 f 0 λf=>brn (jQ b) (brn (jO ((jA f)+(jA [[b]])) 8) ((G 155 [e,A.sl 1 (j4 f [[b]])]).bind λe=>zO e λe=>kRs 1 e λe=>brn (jO ((jA p)+(jA e)) 24) (jC b (vi 1) λb=>jEE a b c d (j4 p e)) none) none) none) ((jEy a).bind λa=>JU 1 a 0 λa=>brn (jO ((jA p)+(jA [[A.sl 1 a]])) 24) (jh (A.sl 1 (j4 p [[A.sl 1 a]]))) none):=hq Tryz.func155
theorem jGV:jDD a b c p=jd 2 a λa=>brn (jQ b) (brn (jQ c) (kF 73 [jc a 0] λd=>JK d (jBs (vi 0) (jc a 0) (jc a 1) b c p) (K8 (jc a 0) b λd=>jx d false λ_=>kA d (jc a 1) λe=>zL d (zG e) λe=>jx d false λ_=>kA d c λf=>zL d (zG f) λf=>zL d (jq .neq false e f) λe=>yU d (vb true) e (some (A.top,[vb false,A.sl 259 p])) (jBT (vi 0) (jc a 0) (jc a 1) b c p))) none) none:=vq Tryz.func156
theorem jEU:jBs a b c d e p=jL a (qS p) (QK (jA p) a λf=>kRP p f 0 λf=>qg f b (js7 p a d e) (jC a (vi 1) λa=>jBs a b c d e p)) (js8 b d e p):=hq Tryz.func156
theorem jGg:jBT a b c d e p=js9 a c e p b d:=hq Tryz.func156
theorem jDO:jBY a b c d e p=js9 a c e p b d:=hq Tryz.func156
theorem jGW:jBm a b p=jd 2 a λa=>jd 2 b λb=>kF 73 [jc a 0] λc=>JK c (jBt (vi 0) (jc a 0) (jc a 1) (jc b 0) (jc b 1) p) (K8 (jc a 0) (jc b 0) λc=>jx c false λ_=>kA c (jc a 1) λd=>zL c (zG d) λd=>jx c false λ_=>kA c (jc b 1) λe=>zL c (zG e) λe=>zL c (jq .neq false d e) λd=>yU c (vb true) d (some (A.top,[vb false,A.sl 259 p])) (jB9 (vi 0) (jc a 0) (jc a 1) (jc b 0) (jc b 1) p)):=vq Tryz.func156
theorem jEV:jBt a b c d e p=jL a (qS p) (QK (jA p) a λf=>kRP p f 0 λf=>qg f b (js7 p a d e) (jC a (vi 1) λa=>jBt a b c d e p)) (js8 b d e p):=hq Tryz.func156
theorem jGh:jB9 a b c d e p=jtb a c e p b d:=hq Tryz.func156
theorem jDQ:jCl a b c d e p=jtb a c e p b d:=hq Tryz.func156
theorem jHT:G 157 [a]=jEF a (vi 0) [] []:=gq Tryz.func157
theorem jGi:jEF a b p q=Yf b a (jcX 3 a b 0 λc=>jd8 2 3 a b 1 λd=>(jkQ c d q).bind λc=>JU 3 c 0 λc=>jC b (vi 1) λb=>jEF a b p c) (jh (A.agg [A.sl 3 q])):=hq Tryz.func157
theorem jz3:G 158 [a]=jd 2 a λa=>kF 189 [jc a 0] λb=>JK b (ky (jc a 1) λa=>yY a (vi 0) λa=>jh a) (kF 159 [jc a 0] λb=>jx b true λ_=>jW b (jc a 1) λc=>zm b (zG c) λc=>zm b (jq .leq false c (vi 4)) λc=>ko b c (vb false) λb=>jx b true λ_=>jW b (jc a 1) λa=>yn b 63 [a,A.fn 195 []] λa=>zm b (Zl .not a) λa=>ko b a (vb false) λa=>jh a):=gq Tryz.func158
theorem jz4:G 159 [a]=kLS a λb=>jdv a b (vi 0):=gq Tryz.func159
theorem jhJ:jdv a b c=jL c b (yY c (vi 0) λd=>jW d a λe=>jW d c λf=>zm d (zj e f) λe=>yn d 196 [e] λe=>zm d (Zl .not e) λe=>ko d e (vb false) λd=>kA d a λe=>kA d c λf=>zL d (zj e f) λe=>Qg d 196 [e] λe=>zL d (Zl .not e) λe=>kA d e λe=>jW e a λf=>jW e c λg=>zm e (zj f g) λf=>yn e 197 [f] λf=>zm e (Zl .not f) λf=>zL d (JC e f (vb false)) λe=>kA d e λe=>jW e a λf=>jW e c λg=>zm e (zj f g) λf=>zm e (jq .neq false f (vy 95)) λf=>zL d (JC e f (vb false)) λe=>yU d (vb true) e (jh (vb false)) (jC c (vi 1) λc=>jdv a b c)) (kLS a λb=>kF 78 [b,vi 1,vi 6] λb=>yn b 198 [] λc=>jW b a λa=>yn b 174 [c,a] λa=>zm b (Zl .not a) λa=>ko b a (vb false) λa=>jh a):=hq Tryz.func159
theorem jxs:jdn a=ky a λb=>kMk 40 b b λb=>jc4 a (vi 0) (JM b [sv [],A.sl 2 []]):=vq Tryz.func15
theorem jm9:jc4 a b p=Yf b a (qu 2 2 a b λc=>(jpm c).bind λc=>kHD c 0 λd=>JU 66 c 1 λc=>QK (jA p) b λe=>brn (jQ d) (brn (kO d) (kRG p e λf=>jC b (vi 1) λb=>jc4 a b (yh p e (zf f 0 [d,A.sl 2 c]))) none) none) (some (A.top,[A.sl 66 p])):=hq Tryz.func15
theorem jz5:G 160 [a]=jd 2 a λa=>kF 68 [j8 a] λb=>jx b true λ_=>yn b 158 [j8 a] λa=>ko b a (vb false) λa=>jh a:=gq Tryz.func160
theorem jvX:jgW a b c=brn (jQ a) (brn (jQ b) (brn (jQ c) ((jfA (A.agg [b,c])).bind λb=>kHD b 0 λc=>JU 66 b 1 λb=>brn (yb c) (brn (jQ a) (brn (jQ c) (brn (jQ a) (brn (jQ c) (some (A.top,[a,c,A.sl 66 b])) none) none) none) none) none) none) none) none:=vq Tryz.func161
theorem jz6:G 164 [a,b]=jd 3 a λa=>jd 3 b λb=>(jq .eql true (jc a 0) (jc b 0)).bind λc=>jx c true λ_=>jx c true λ_=>jx c true λ_=>jx c true λ_=>yn c 99 [A.agg [jc a 1,jc a 2],A.agg [jc b 1,jc b 2]] λa=>ko c a (vb false) λa=>jh a:=gq Tryz.func164
theorem jz7:G 165 [a,b]=jd 2 a λa=>brn (jQ (jc a 0)) (brn (jQ (jc a 0)) ((jez none true true [sv []] b (jc a 0)).bind λc=>kM c 0 λd=>kM c 1 λc=>jx c true λ_=>jW c (jc a 1) λe=>zm c (zG e) λe=>zm c (jq .eql false e (vi 0)) λe=>yU c e (vb false) (brn (jQ d) (ky (jc a 1) λc=>jbw b (jc a 1) c (vi 0) (sv []) d [] []) none) (ky (jc a 1) λc=>jbw b (jc a 1) c (vi 0) (sv []) (jc a 0) [] [])) none) none:=gq Tryz.func165
theorem jlp:jbw a b c d e f p q=jL d c (qu 2 2 b d λg=>jd 2 g λg=>kF 165 [j8 g,a] λg=>jd 2 g λg=>brn (jO ((jA q)+(jA [[jc g 0,jc g 1]])) 40) (jC d (vi 1) λd=>jbw a b c d e f p (j4 q [[jc g 0,jc g 1]])) none) (brn (jQ f) (jh (A.agg [f,A.sl 2 q])) none):=hq Tryz.func165
theorem jz8:G 166 [a,b,c]=jd 2 a λa=>kF 73 [jc a 0] λd=>JK d (jha b c (vi 0) (jc a 0) (jc a 1) (sv []) []) (brn (jQ (jc a 0)) (brn (jQ (jc a 0)) (jhb b c (vi 0) (jc a 0) (jc a 1) (sv []) (jc a 0) [] []) none) none):=gq Tryz.func166
theorem jqX:jha a b c d e f p=Yf c a (kIP 1 a c λg=>qg g d (kF 89 [c] λa=>jC b a λa=>jtc a) (jC c (vi 1) λc=>jha a b c d e f p)) (jtc d):=hq Tryz.func166
theorem jqY:jhb a b c d e f g p q=Yf c e (qu 2 2 e c λh=>kF 166 [h,a,b] λh=>jd 2 h λh=>brn (jO ((jA q)+(jA [[jc h 0,jc h 1]])) 40) (jC c (vi 1) λc=>jhb a b c d e f g p (j4 q [[jc h 0,jc h 1]])) none) (brn (jQ g) (jh (A.agg [g,A.sl 2 q])) none):=hq Tryz.func166
theorem jz9:G 167 [a,b]=jd 2 a λa=>jhc b (vi 1) (vi 0) (jc a 0) (jc a 1):=gq Tryz.func167
theorem jlq:jhc a b c d e=ky e λf=>K7 c f λf=>jW f b λg=>jW f a λh=>zm f (jq .leq false g h) λg=>yU f g (vb false) (qu 2 2 e c λf=>jcx a b λg=>kF 167 [f,g] λf=>jC b f λb=>jC c (vi 1) λc=>jhc a b c d e) (jh b):=hq Tryz.func167
theorem jAa:G 168 [a]=jd 2 a λa=>jhd (vi 0) (vi 0) (jc a 0) (jc a 1):=gq Tryz.func168
theorem jqZ:jhd a b c d=Yf b d (qu 2 2 d b λe=>kF 168 [e] λe=>kF 200 [a,e] λa=>jC b (vi 1) λb=>jhd a b c d) (jC a (vi 1) λa=>jh a):=hq Tryz.func168
theorem jAb:G 169 [a,b]=jhe a b (vi 0):=gq Tryz.func169
theorem jq0:jhe a b c=ky a λd=>K7 c d λd=>jW d a λe=>jW d c λf=>zm d (jz 1 e f) λe=>zm d (kU e) λe=>jW d b λf=>zm d (jq .lss false e f) λe=>yU d e (vb false) (jC c (vi 1) λc=>jhe a b c) (ky a λd=>K7 c d λd=>jW d a λe=>jW d c λf=>zm d (jz 1 e f) λe=>zm d (kU e) λe=>jW d b λf=>zm d (jq .eql false e f) λe=>yU d e (vb false) (jh a) (kSl 1 a none (some c) λd=>kRs 1 d λd=>brn (jO (jA d) 16) (brn (jQ b) (brn (jO ((jA d)+(jA [[b]])) 16) (kSl 1 a (some c) none λa=>kRs 1 a λa=>brn (jO ((jA (j4 d [[b]]))+(jA a)) 16) (jh (A.sl 1 (j4 (j4 d [[b]]) a))) none) none) none) none)):=hq Tryz.func169
theorem jF9:jFB a b=jd 1 a λa=>kFN 28 [zn a] λc=>kA c b λd=>Qg c 37 [d] λd=>zL c (Zl .not d) λd=>yU c (vb true) d (some (A.top,[vb false,A.sl 67 []])) (ky (jc a 0) λc=>jCq b (jc a 0) c (vi 0) [] []):=vq Tryz.func16
theorem jFG:jCq a b c d p q=jL d c (qu 3 3 b d λe=>jd 3 e λe=>(jEN (A.agg [jc e 1,jc e 2]) a (vb false)).bind λf=>kHD f 0 λg=>kHD f 1 λh=>kHD f 2 λi=>JU 66 f 3 λf=>brn (yb g) (brn (yb h) (brn (yb i) (brn (jQ g) (K9 i (some (A.top,[vb false,A.sl 67 []])) (brn (jQ (jc e 0)) (brn (jQ g) (brn (jQ (jc e 0)) (brn (jQ g) (brn (kO (jc e 0)) (brn (kO g) (brn (jO ((jA p)+(jA [[jc e 0,g,A.sl 2 f]])) 48) (jC d (vi 1) λd=>jCq a b c d (j4 p [[jc e 0,g,A.sl 2 f]]) q) none) none) none) none) none) none) none)) none) none) none) none) ((jpn (A.agg [A.sl 3 []]) (A.sl 3 p)).bind λa=>kHD a 0 λb=>JU 67 a 1 λa=>brn (yb b) (some (A.top,[b,A.sl 67 a])) none):=hq Tryz.func16
theorem g17:G 17 [a,b]=ky a λc=>ky b λd=>zZ c d (jh (vb false)) (jmm a b (vi 0)):=gq Tryz.func17
theorem juU:jmm a b c=Yf c a (qu 2 2 a c λd=>qu 2 2 b c λe=>kF 40 [d,e] λd=>K9 d (jh (vb false)) (jC c (vi 1) λc=>jmm a b c)) (jh (vb true)):=hq Tryz.func17
theorem jE9:G 170 [a]=jd 3 a λa=>ky (jc a 0) λb=>kFN 47 [b,vi 1,vi 12] λb=>jx b false λ_=>kA b (jc a 1) λc=>zL b (zG c) λc=>jx b false λ_=>kA b (jc a 0) λd=>zL b (zG d) λd=>zL b (jq .neq false c d) λc=>ko b (vb true) c λb=>jx b false λ_=>kA b (jc a 2) λc=>Qg b 47 [c,vi 1,vi 100] λc=>zL b (Zl .not c) λc=>yU b (vb true) c (jh (vb false)) (jA6 (vi 0) (jc a 0) (jc a 1) (jc a 2)):=gq Tryz.func170
theorem jC7:jA6 a b c d=Yf a b (kIP 1 b a λe=>kFN 133 [e] λe=>jx e false λ_=>kA e b λf=>kA e a λg=>zL e (yt 1 f none (some g)) λf=>jx e false λ_=>kA e b λg=>kA e a λh=>zL e (jz 1 g h) λg=>zL e (kU g) λg=>Qg e 137 [f,g] λf=>ko e (vb true) f λe=>jx e false λ_=>kA e c λf=>kA e a λg=>zL e (jz 1 f g) λf=>zL e (kU f) λf=>jx e false λ_=>kA e d λg=>Qg e 47 [f,g,vi 100] λf=>zL e (Zl .not f) λf=>yU e (vb true) f (jh (vb false)) (jC a (vi 1) λa=>jA6 a b c d)) (jh (vb true)):=hq Tryz.func170
theorem jFa:G 171 [a,b]=jd 3 a λa=>jd 2 b λb=>kF 75 [j8 b] λc=>jx c true λ_=>jx c true λ_=>yn c 201 [jtA a,j8 b] λa=>ko c a (vb false) λa=>jh a:=gq Tryz.func171
theorem jFb:G 172 [a,b,c]=JK a (jh (vi 1)) (JK b (jh (vi 2)) (JK c (jh (vi 3)) (jh (vi 0)))):=gq Tryz.func172
theorem jFc:G 173 [a,b,c]=jd 3 a λa=>jd 2 b λb=>jd 2 c λc=>kF 202 [j8 b,j8 c] λd=>K9 d (jh (vb false)) (kF 203 [jtA a,j8 b] λd=>kF 203 [jtA a,j8 c] λe=>zZ d e (jqy d e λa=>jh a) (kF 73 [jc b 0] λd=>jx d false λ_=>kA d (jc c 0) λe=>Qg d 73 [e] λe=>yU d (vb true) e (jh (vb false)) (kF 204 [jtA a,j8 b,j8 c] λd=>zZ d (vi 0) (jqy d (vi 0) λa=>jh a) (kF 205 [j8 b,j8 c] λd=>jaK d (vi 0) λe=>jx e true λ_=>jx e true λ_=>jW e (jc b 1) λb=>jW e d λf=>zm e (jz 2 b f) λb=>zm e (jbr 2 b) λb=>jx e true λ_=>jW e (jc c 1) λc=>jW e d λd=>zm e (jz 2 c d) λc=>zm e (jbr 2 c) λc=>yn e 173 [jtA a,b,c] λa=>ko e a (vb false) λa=>jh a)))):=gq Tryz.func173
theorem jAc:G 174 [a,b]=kF 206 [a,b] λa=>jaK a (vi 0) λa=>jh a:=gq Tryz.func174
theorem jFd:G 177 [a,b]=JK (vb false) ((jaW .u32 a).bind λa=>(jaW .u32 b).bind λb=>kF2 218 [a,b] λa b=>(jaW .u64 a).bind λa=>(jaW .u64 b).bind λb=>jh (A.tup [a,b])) (kF2 219 [a,b] λa b=>jh (A.tup [a,b])):=gq Tryz.func177
theorem jFe:G 178 [a,b,c]=JK a (jh (vi 1)) ((DX.run K (MM K) (.callc b [] false)).bind λa=>JK a (jh (vi 2)) ((DX.run K (MM K) (.callc c [] false)).bind λa=>JK a (jh (vi 3)) (jh (vi 0)))):=gq Tryz.func178
theorem jEA:G 179 [a,b,c]=kLN 3 a λa=>kLN 2 b λb=>kLN 2 c λc=>kF 180 [a,b,c] λa=>jh a:=gq Tryz.func179
theorem jEB:G 180 [a,b,c]=jd 3 a λa=>jd 2 b λb=>jd 2 c λc=>kF 220 [j8 c] λd=>ky d λe=>jyM d e (vi 0) (jc a 0) (jc a 1) (jc a 2) (jc b 0) (jc b 1) (jc c 0) (jc c 1):=gq Tryz.func180
theorem jB0:jyM a b c d e f g h i j=jL c b (kIP 1 a c λk=>kF 188 [A.agg [g,h],k] λl=>kF 188 [A.agg [i,j],k] λk=>jL l k (jh (vb false)) (jC c (vi 1) λc=>jyM a b c d e f g h i j)) (kF 221 [A.agg [d,e,f],A.agg [g,h]] λa=>kF 221 [A.agg [d,e,f],A.agg [i,j]] λb=>K8 a b λc=>jx c false λ_=>Qg c 81 [A.agg [g,h]] λk=>ko c (vb true) k λc=>jx c false λ_=>Qg c 81 [A.agg [i,j]] λk=>yU c (vb true) k (jqy a b λa=>jh a) (kF 222 [A.agg [d,e,f],A.agg [i,j],A.agg [g,h]] λa=>JK a (jh (vb true)) (kF 223 [A.agg [g,h],A.agg [i,j]] λa=>kM a 0 λb=>kM a 1 λc=>kM a 2 λa=>jd 2 b λb=>jd 2 c λc=>jx a true λ_=>jx a true λ_=>jx a true λ_=>yn a 180 [A.agg [d,e,f],j8 b,j8 c] λb=>ko a b (vb false) λa=>jh a))):=hq Tryz.func180
theorem jEC:G 181 [a,b,c]=kLN 3 a λa=>kLN 2 b λb=>kLN 2 c λc=>kF 180 [a,b,c] λa=>jh a:=gq Tryz.func181
theorem jAd:G 182 [a,b]=jL a b (jh (vi (- 1))) (yr a b (jh (vi 1)) (jh (vi 0))):=gq Tryz.func182
theorem jAe:G 183 [a,b]=jd 2 b λb=>kF 73 [jc b 0] λc=>JK c (kF 169 [a,jc b 0] λa=>jh a) (jhf a (vi 0) (jc b 0) (jc b 1)):=gq Tryz.func183
theorem jq1:jhf a b c d=Yf b d (qu 2 2 d b λe=>kF 183 [a,e] λa=>jC b (vi 1) λb=>jhf a b c d) (jh a):=hq Tryz.func183
theorem jAg:G 185 [a,b,c]=ky a λd=>jhh a b c a d (vi 0):=gq Tryz.func185
theorem jq4:jhh a b c d e f=jL f e (qu 2 2 d f λg=>jd 2 g λg=>ky b λh=>jhF f h (jh (vi 1)) (qu 2 2 b f λh=>jd 2 h λh=>(DX.run K (MM K) (.callc c [j8 g,j8 h] false)).bind λg=>zZ g (vi 0) (jh g) (jC f (vi 1) λf=>jhh a b c d e f))) (ky a λa=>Yf a b (jh (vi (- 1))) (jh (vi 0))):=hq Tryz.func185
theorem jxV:G 186 [a]=K8 a a λa=>jh a:=gq Tryz.func186
theorem jAh:G 188 [a,b]=jd 2 a λa=>qg (jc a 0) b (ky (jc a 1) λc=>jdx b (vi 1) (jc a 1) c (vi 0)) (ky (jc a 1) λc=>jdx b (vi 0) (jc a 1) c (vi 0)):=gq Tryz.func188
theorem jq5:jdx a b c d e=jL e d (qu 2 2 c e λf=>jd 2 f λf=>kF 188 [j8 f,a] λf=>jC b f λb=>jC e (vi 1) λe=>jdx a b c d e) (jh b):=hq Tryz.func188
theorem jAi:G 189 [a]=kLS a λb=>jdy a b (vi 0):=gq Tryz.func189
theorem jhK:jdy a b c=jL c b (yY c (vi 0) λd=>jW d a λe=>jW d c λf=>zm d (zj e f) λe=>yn d 126 [e] λe=>zm d (Zl .not e) λe=>ko d e (vb false) λd=>kA d c λe=>zL d (jq .gtr false e (vi 0)) λe=>kA d e λe=>jW e a λf=>jW e c λg=>zm e (zj f g) λf=>yn e 196 [f] λf=>zm e (Zl .not f) λf=>zL d (JC e f (vb false)) λe=>kA d e λe=>jW e a λf=>jW e c λg=>zm e (zj f g) λf=>yn e 197 [f] λf=>zm e (Zl .not f) λf=>zL d (JC e f (vb false)) λe=>yU d (vb true) e (jh (vb false)) (jC c (vi 1) λc=>jdy a b c)) (kLS a λa=>kF 78 [a,vi 1,vi 4] λa=>jh a):=hq Tryz.func189
theorem jxt:jfz a p=jc5 a (vi 0) p:=vq Tryz.func18
theorem jna:jc5 a b p=jL b (qS p) (kF 41 [a] λc=>QK (jA p) b λd=>brn (jQ c) (brn (kO c) (kRG p d λe=>brn (je9 e 0 1) (jC a (vi 1) λa=>QK (jA (yh p d (zf e 0 [c]))) b λf=>kRG (yh p d (zf e 0 [c])) f λg=>brn (jcv (jc g 1)) (kRG (yh p d (zf e 0 [c])) f λg=>kRs 2 (jc g 1) λh=>(jfz a h).bind λa=>kHD a 0 λh=>JU 66 a 1 λa=>jC b (vi 1) λb=>jc5 h b (yh (yh p d (zf e 0 [c])) f (zf g 1 [A.sl 2 a]))) none) none) none) none) (some (A.top,[a,A.sl 66 p])):=hq Tryz.func18
theorem jAj:G 190 [a,b,c]=ky a λd=>jdz a b c d (vi 0) d:=gq Tryz.func190
theorem jq6:jdz a b c d e f=jL e f (jC e f λg=>(jaW .u64 g).bind λg=>jqz g (A.val (.int .u64 1)) λg=>(jaW .i64 g).bind λg=>qu 3 3 a g λh=>(DX.run K (MM K) (.callc c [h,b] false)).bind λh=>jL h (vi 0) (jC g (vi 1) λe=>jdz a b c d e f) (jdz a b c d e g)) (K7 e d λd=>jW d c λc=>jW d a λa=>jW d e λf=>zm d (jz 3 a f) λa=>zm d (jbr 3 a) λa=>jW d b λb=>zm d (DX.run K (MM K) (.callc c [a,b] false)) λa=>zm d (jq .eql false a (vi 0)) λa=>ko d a (vb false) λa=>jh (A.tup [e,a])):=hq Tryz.func190
theorem jAk:G 191 [a,b]=jd 3 a λa=>kF 154 [jc a 0,b] λa=>jh a:=gq Tryz.func191
theorem jxW:G 193 [a]=K8 a a λa=>jh a:=gq Tryz.func193
theorem jGX:jEy a=kRs 1 a λa=>brn (jO (jA a) 8) (some (A.top,[A.sl 1 a])) none:=vq Tryz.func194
theorem jAl:G 195 [a]=jd 2 a λa=>kFN 158 [j8 a] λa=>jh a:=gq Tryz.func195
theorem jAm:G 196 [a]=jaK a (vy 97) λb=>jW b a λa=>zm b (jq .leq false a (vy 122)) λa=>ko b a (vb false) λa=>jh a:=gq Tryz.func196
theorem jAn:G 197 [a]=jaK a (vy 48) λb=>jW b a λa=>zm b (jq .leq false a (vy 57)) λa=>ko b a (vb false) λa=>jh a:=gq Tryz.func197
theorem jAo:G 198 []=jh (A.sl 1 [[sv [116,114,117,101]],[sv [102,97,108,115,101]],[sv [116,114,117,116,104]],[sv [98,111,116,104]],[sv [101,105,116,104,101,114]],[sv [105,102]],[sv [97,108,108]],[sv [115,111,109,101]]]):=gq Tryz.func198
theorem jAp:G 200 [a,b]=yr a b (jh a) (jh b):=gq Tryz.func200
theorem jFf:G 201 [a,b]=jd 3 a λa=>jd 2 b λb=>kFN 73 [jc b 0] λc=>jx c true λ_=>jx c true λ_=>jW c (jc b 0) λd=>yn c 244 [jtA a,d] λd=>zm c (jq .lss false d (vi 0)) λd=>yU c d (vb false) (jh (vb false)) (jA7 (vi 0) (jc a 0) (jc a 1) (jc a 2) (jc b 0) (jc b 1)):=gq Tryz.func201
theorem jC8:jA7 a b c d e f=Yf a f (qu 2 2 f a λg=>kF 201 [A.agg [b,c,d],g] λg=>K9 g (jh (vb false)) (jC a (vi 1) λa=>jA7 a b c d e f)) (jh (vb true)):=hq Tryz.func201
theorem jFg:G 202 [a,b]=jd 2 a λa=>jd 2 b λb=>kF 138 [j8 b] λc=>jA8 c (vi 0) (jc a 0) (jc a 1) (jc b 0) (jc b 1):=gq Tryz.func202
theorem jC9:jA8 a b c d e f=Yf b a (kIP 1 a b λg=>kF 245 [A.agg [c,d],g] λg=>kIP 1 a b λh=>kF 245 [A.agg [e,f],h] λh=>jL g h (jh (vb false)) (jC b (vi 1) λb=>jA8 a b c d e f)) (jh (vb true)):=hq Tryz.func202
theorem jFh:G 203 [a,b]=jd 3 a λa=>jd 2 b λb=>kF 73 [jc b 0] λc=>K9 c (kF 244 [jtA a,jc b 0] λc=>kIP 1 (jc a 1) c λc=>jyO c (vi 0) (jc a 0) (jc a 1) (jc a 2) (jc b 0) (jc b 1)) (jyO (jc a 2) (vi 0) (jc a 0) (jc a 1) (jc a 2) (jc b 0) (jc b 1)):=gq Tryz.func203
theorem jDa:jyO a b c d e f g=Yf b g (qu 2 2 g b λh=>kF 203 [A.agg [c,d,e],h] λh=>jC a h λa=>jC b (vi 1) λb=>jyO a b c d e f g) (jh a):=hq Tryz.func203
theorem jFi:G 204 [a,b,c]=jd 3 a λa=>jd 2 b λb=>jd 2 c λc=>kF 244 [jtA a,jc b 0] λd=>kF 244 [jtA a,jc c 0] λa=>qg d a (ky (jc b 1) λa=>ky (jc c 1) λb=>jL a b (jh (vi (- 1))) (yr a b (jh (vi 1)) (jh (vi 0)))) (jL d a (jh (vi (- 1))) (yr d a (jh (vi 1)) (jh (vi 0)))):=gq Tryz.func204
theorem jFj:G 205 [a,b]=jd 2 a λa=>jd 2 b λb=>jyP (vi 0) (jc a 0) (jc a 1) (jc b 0) (jc b 1):=gq Tryz.func205
theorem jDb:jyP a b c d e=Yf a c (qu 2 2 c a λf=>qu 2 2 e a λg=>kF 91 [f,g] λf=>K9 f (jh a) (jC a (vi 1) λa=>jyP a b c d e)) (jh (vi (- 1))):=hq Tryz.func205
theorem jAq:G 206 [a,b]=ky a λc=>jhi a b c (vi 0):=gq Tryz.func206
theorem jq7:jhi a b c d=jL d c (kIP 1 a d λe=>qg b e (jh d) (jC d (vi 1) λd=>jhi a b c d)) (jh (vi (- 1))):=hq Tryz.func206
theorem jFk:G 219 [a,b]=(jq .and false a (A.val (.int .u64 4294967295))).bind λc=>jqz a (A.val (.int .u64 32)) λd=>(jq .and false b (A.val (.int .u64 4294967295))).bind λe=>jqz b (A.val (.int .u64 32)) λf=>juP c e λg=>juP d e λe=>jqz g (A.val (.int .u64 32)) λg=>jC e g λe=>(jq .and false e (A.val (.int .u64 4294967295))).bind λg=>jqz e (A.val (.int .u64 32)) λe=>juP c f λc=>jC g c λc=>juP d f λd=>jC d e λd=>jqz c (A.val (.int .u64 32)) λc=>jC d c λc=>juP a b λa=>jh (A.tup [c,a]):=gq Tryz.func219
theorem jFl:G 220 [a]=jd 2 a λa=>(jdm (jc a 0) (jc a 1) []).bind λa=>JU 1 a 0 λa=>(jyi a).bind λa=>JU 1 a 0 λa=>jh (A.sl 1 a):=gq Tryz.func220
theorem jFm:G 221 [a,b]=jd 3 a λa=>jd 2 b λb=>kF 81 [j8 b] λc=>JK c (jh (jc a 2)) (kF 206 [jc a 0,jc b 0] λc=>kIP 1 (jc a 1) c λc=>ky (jc b 1) λd=>jA9 c (jc b 1) d (vi 0) (jc a 0) (jc a 1) (jc a 2)):=gq Tryz.func221
theorem jDc:jA9 a b c d e f g=jL d c (qu 2 2 b d λh=>jd 2 h λh=>kF 221 [A.agg [e,f,g],j8 h] λh=>jC a h λa=>jC d (vi 1) λd=>jA9 a b c d e f g) (jh a):=hq Tryz.func221
theorem jFn:G 222 [a,b,c]=jd 3 a λa=>jd 2 b λb=>jd 2 c λc=>kF 206 [jc a 0,jc b 0] λd=>kF 206 [jc a 0,jc c 0] λa=>K7 d a λe=>kA e d λd=>kA e a λa=>zL e (jq .eql false d a) λa=>kA e a λa=>jx a true λ_=>jW a (jc b 1) λb=>zm a (zG b) λb=>jx a true λ_=>jW a (jc c 1) λc=>zm a (zG c) λc=>zm a (jq .lss false b c) λb=>zL e (JC a b (vb false)) λa=>ko e (vb true) a λa=>jh a:=gq Tryz.func222
theorem jED:G 223 [a,b]=jd 2 a λa=>jd 2 b λb=>K8 (jc a 0) (jc b 0) λc=>jx c false λ_=>kA c (jc a 1) λd=>zL c (zG d) λd=>jx c false λ_=>kA c (jc b 1) λe=>zL c (zG e) λe=>zL c (jq .neq false d e) λd=>yU c (vb true) d (jh (A.tup [A.agg [sv [],A.sl 2 []],A.agg [sv [],A.sl 2 []],vb false])) (ky (jc a 1) λc=>jBa (jc a 1) c (vi 0) (jc b 0) (jc b 1) (sv []) (sv []) [] []):=gq Tryz.func223
theorem jDd:jBa a b c d e f g p q=jL c b (qu 2 2 a c λh=>jd 2 h λh=>qu 2 2 e c λi=>kF 99 [j8 h,i] λi=>K9 i (qu 2 2 e c λa=>brn (jQ (jc h 0)) (brn (jQ (jc h 1)) (jd 2 a λa=>jh (A.tup [j8 h,j8 a,vb true])) none) none) (jC c (vi 1) λc=>jBa a b c d e f g p q)) (jh (A.tup [A.agg [sv [],A.sl 2 []],A.agg [sv [],A.sl 2 []],vb false])):=hq Tryz.func223
theorem g24:G 24 [a,b]=ky a λc=>jcx b c λb=>jL b (vi 0) (jh (vi (- 1))) (jir a b (vi 0)):=gq Tryz.func24
theorem juV:jir a b c=Yf c a (qu 3 3 a c λd=>kF 44 [d,b] λb=>jL b (vi 0) (jh (vi (- 1))) (jC c (vi 1) λc=>jir a b c)) (jh b):=hq Tryz.func24
theorem jFo:G 244 [a,b]=jd 3 a λa=>jBb b (vi 0) (jc a 0) (jc a 1) (jc a 2):=gq Tryz.func244
theorem jDe:jBb a b c d e=Yf b c (kIP 1 c b λf=>qg f a (jh b) (jC b (vi 1) λb=>jBb a b c d e)) (jh (vi (- 1))):=hq Tryz.func244
theorem jFp:G 245 [a,b]=jd 2 a λa=>qg (jc a 0) b (jyQ b (vi 1) (vi 0) (jc a 0) (jc a 1)) (jyQ b (vi 0) (vi 0) (jc a 0) (jc a 1)):=gq Tryz.func245
theorem jDf:jyQ a b c d e=Yf c e (qu 2 2 e c λf=>kF 245 [f,a] λf=>jC b f λb=>jC c (vi 1) λc=>jyQ a b c d e) (jh b):=hq Tryz.func245
theorem g25:G 25 [a]=jd 1 a λa=>kF 45 [zn a] λb=>jx b true λ_=>yn b 46 [zn a] λa=>ko b a (vb false) λa=>jh a:=gq Tryz.func25
theorem jxu:jpj a=ky a λb=>kMk 48 b b λb=>jc6 a (vi 0) (JM b [vb false,sv [],A.sl 2 []]):=vq Tryz.func27
theorem jnb:jc6 a b p=Yf b a (qu 3 3 a b λc=>(jpp c).bind λc=>kHD c 0 λd=>kHD c 1 λe=>JU 66 c 2 λc=>QK (jA p) b λf=>brn (jQ d) (brn (jQ e) (brn (kO d) (brn (kO e) (kRG p f λg=>jC b (vi 1) λb=>jc6 a b (yh p f (zf g 0 [d,e,A.sl 2 c]))) none) none) none) none) (some (A.top,[A.sl 67 p])):=hq Tryz.func27
theorem g28:G 28 [a]=jd 1 a λa=>kF 53 [zn a] λb=>jx b true λ_=>yn b 54 [zn a] λa=>ko b a (vb false) λa=>jh a:=gq Tryz.func28
theorem g30:G 30 [a,b]=ky a λc=>ky b λd=>zZ c d (jh (vb false)) (jmn a b (vi 0)):=gq Tryz.func30
theorem juW:jmn a b c=Yf c a (qu 3 3 a c λd=>qu 3 3 b c λe=>kF 59 [d,e] λd=>K9 d (jh (vb false)) (jC c (vi 1) λc=>jmn a b c)) (jh (vb true)):=hq Tryz.func30
theorem jxw:jpl a p=jc7 a (vi 0) p:=vq Tryz.func31
theorem jnd:jc7 a b p=jL b (qS p) ((jq .rem false a (vi 3)).bind λc=>yY c (vi 0) λc=>QK (jA p) b λd=>brn (jQ c) (brn (kO c) (kRG p d λe=>brn (je9 e 0 1) (jC a (vi 1) λa=>kF 41 [a] λf=>QK (jA (yh p d (zf e 0 [c]))) b λg=>brn (jQ f) (brn (kO f) (kRG (yh p d (zf e 0 [c])) g λh=>brn (je9 h 1 1) (jC a (vi 1) λa=>QK (jA (yh (yh p d (zf e 0 [c])) g (zf h 1 [f]))) b λi=>kRG (yh (yh p d (zf e 0 [c])) g (zf h 1 [f])) i λj=>brn (jcv (jc j 2)) (kRG (yh (yh p d (zf e 0 [c])) g (zf h 1 [f])) i λj=>kRs 2 (jc j 2) λk=>(jfz a k).bind λa=>kHD a 0 λk=>JU 66 a 1 λa=>jC b (vi 1) λb=>jc7 k b (yh (yh (yh p d (zf e 0 [c])) g (zf h 1 [f])) i (zf j 2 [A.sl 2 a]))) none) none) none) none) none) none) none) (some (A.top,[a,A.sl 67 p])):=hq Tryz.func31
theorem g32:G 32 [a,b]=jmo a b (vi 0):=gq Tryz.func32
theorem juX:jmo a b c=Yf c a (jcX 3 a c 0 λd=>(jq .rem false b (vi 3)).bind λe=>yY e (vi 0) λe=>(jq .neq true d e).bind λd=>JK d (jh (vi (- 1))) (jC b (vi 1) λb=>kIA 3 a c λd=>jjd d 1 λd=>kAP d 0 λd=>kF 41 [b] λe=>zZ d e (jh (vi (- 1))) (jC b (vi 1) λb=>kIA 3 a c λd=>jjd d 1 λd=>kAP d 1 λd=>kF 60 [d,b] λb=>jL b (vi 0) (jh (vi (- 1))) (jC c (vi 1) λc=>jmo a b c)))) (jh b):=hq Tryz.func32
theorem g33:G 33 [a,b]=jd 2 a λa=>kLS (jc a 0) λc=>jcx b c λb=>jL b (vi 0) (jh (vi (- 1))) (kF 13 [jc a 1,b] λa=>jL a (vi 0) (jh (vi (- 1))) (jh a)):=gq Tryz.func33
theorem g34:G 34 [a]=jFC a (vi 0):=gq Tryz.func34
theorem jGL:jFC a b=Yf b a (qu 2 2 a b λc=>kF 61 [c] λc=>K9 c (jh (vb false)) (jC b (vi 1) λb=>jFC a b)) (ky a λa=>jd9 a (vi 10) λa=>jh a):=hq Tryz.func34
theorem g35:G 35 [a,b]=jd 1 a λa=>jFD b (vi 0) (jc a 0) [] []:=gq Tryz.func35
theorem jGM:jFD a b c p q=Yf b c (jd8 2 3 c b 1 λd=>kF 62 [d,a,vb false] λd=>kM d 0 λe=>kM d 1 λ_=>kM d 2 λd=>jd 2 e λe=>K9 d (jh (A.tup [A.agg [A.sl 3 []],vb false])) (jcX 3 c b 0 λd=>brn (jQ d) (brn (jQ (jc e 0)) (brn (jQ (jc e 1)) (brn (jQ d) (brn (jQ (jc e 0)) (brn (jQ (jc e 1)) (brn (jO ((jA p)+(jA [[d,jc e 0,jc e 1]])) 48) (jC b (vi 1) λb=>jFD a b c (j4 p [[d,jc e 0,jc e 1]]) q) none) none) none) none) none) none) none)) ((G 50 [A.agg [A.sl 3 []],A.sl 3 p]).bind λa=>zO a λa=>kM a 0 λb=>kM a 1 λa=>jd 1 b λb=>jh (A.tup [zn b,a])):=hq Tryz.func35
theorem jxx:jpm a=jd 2 a λa=>brn (jQ (jc a 0)) ((jdn (jc a 1)).bind λb=>JU 66 b 0 λb=>jp8 a b) none:=vq Tryz.func36
theorem jxy:jml a b=brn (jQ a) (brn (jQ b) (brn (jQ a) ((jdn b).bind λb=>JU 66 b 0 λb=>brn (jQ a) (some (A.top,[a,A.sl 66 b])) none) none) none) none:=vq Tryz.func36
theorem g37:G 37 [a]=ky a λb=>jd9 b (vi 10) λb=>jW b a λa=>yn b 63 [a,A.fn 64 []] λa=>zm b (Zl .not a) λa=>ko b a (vb false) λa=>jh a:=gq Tryz.func37
theorem jHb:jEN a b c=jd 2 a λa=>(jfA (j8 a)).bind λa=>kHD a 0 λd=>JU 66 a 1 λa=>brn (yb d) (brn (jQ d) (jDv b c (vi 0) (sv []) d a []) none) none:=vq Tryz.func38
theorem jGB:jDv a b c d e p q=jtd e p a b c d q:=hq Tryz.func38
theorem jGC:jEG a b c d e p q=jtd e q a b c d p:=hq Tryz.func38
theorem jxz:jpn a b=jd 1 a λa=>(G 69 [zn a,b]).bind λa=>zO a λa=>kM a 0 λb=>kM a 1 λa=>jd 1 b λb=>K9 a (some (A.top,[vb false,A.sl 67 []])) ((jpq (zn b)).bind λa=>JU 67 a 0 λa=>kfn true (G 28 [A.agg [A.sl 3 a]]) λb=>K9 b (some (A.top,[vb false,A.sl 67 []])) (some (A.top,[vb true,A.sl 67 a]))):=vq Tryz.func39
theorem g4:G 4 [a,b]=jd 1 a λa=>kF 6 [zn a,vi 1048576] λc=>jL c (vi 0) (jh (vb true)) (kF 13 [b,c] λc=>jL c (vi 0) (jh (vb true)) ((jnL (jc a 0)).bind λc=>JU 67 c 0 λc=>(jdn b).bind λd=>JU 66 d 0 λd=>(G 14 [A.agg [A.sl 3 c],A.sl 2 d]).bind λc=>zO c λc=>kM c 0 λd=>kM c 1 λc=>jd 1 d λd=>(jnL (jc a 0)).bind λe=>JU 67 e 0 λe=>(jdn b).bind λf=>JU 66 f 0 λf=>(jFB (A.agg [A.sl 3 e]) (A.sl 2 f)).bind λg=>kHD g 0 λh=>JU 67 g 1 λg=>brn (yb h) (kfn true (G 10 [A.agg [A.sl 3 g],zn d]) λi=>QL i λi=>kA i h λj=>kA i c λk=>zL i (jq .neq true j k) λj=>yU i (vb true) j (jh (vb false)) ((jnL (jc a 0)).bind λi=>JU 67 i 0 λi=>kfn true (G 10 [A.agg [A.sl 3 e],A.agg [A.sl 3 i]]) λi=>K9 i (jh (vb false)) ((jdn b).bind λi=>JU 66 i 0 λi=>kfn true (G 17 [A.sl 2 f,A.sl 2 i]) λi=>K9 i (jh (vb false)) ((jmk (vi 1) e).bind λe=>kHD e 0 λi=>JU 67 e 1 λ_=>(jfz i f).bind λe=>kHD e 0 λf=>JU 66 e 1 λ_=>K7 f (vi 0) λe=>jx e false λ_=>jx e false λ_=>zL e ((G 10 [A.agg [A.sl 3 g],zn d]).bind (fin true)) λf=>zL e (Zl .not f) λf=>ko e (vb true) f λe=>kA e h λf=>kA e c λh=>zL e (jq .neq true f h) λf=>yU e (vb true) f (jh (vb false)) ((jmk (vi 1) g).bind λe=>kHD e 0 λf=>JU 67 e 1 λe=>kfn true (G 12 [A.agg [A.sl 3 e],vi 1]) λg=>jL g (vi 0) (jh (vb false)) (zZ g f (jh (vb false)) ((jnL (jc a 0)).bind λa=>JU 67 a 0 λa=>(jdn b).bind λb=>JU 66 b 0 λb=>(jFB (A.agg [A.sl 3 a]) (A.sl 2 b)).bind λa=>kHD a 0 λb=>JU 67 a 1 λa=>brn (yb b) (kfn true (G 10 [A.agg [A.sl 3 a],zn d]) λa=>QL a λa=>kA a b λb=>kA a c λc=>zL a (jq .neq true b c) λb=>yU a (vb true) b (jh (vb false)) (kfn true (G 12 [A.agg [A.sl 3 e],vi 1]) λa=>jL a (vi 0) (jh (vb false)) (zZ a f (jh (vb false)) (jh (vb true))))) none))))))) none)):=gq Tryz.func4
theorem g40:G 40 [a,b]=jd 2 a λa=>jd 2 b λb=>zZ (jc a 0) (jc b 0) (jh (vb false)) (kF 17 [jc a 1,jc b 1] λa=>K9 a (jh (vb false)) (jh (vb true))):=gq Tryz.func40
theorem g41:G 41 [a]=jll a (vi 0) (jh (sv [109,48])) (jmp a (sv [])):=gq Tryz.func41
theorem juY:jmp a b=yr a (vi 0) ((jq .rem false a (vi 10)).bind λc=>jC (vi 48) c λc=>(jaW .u8 c).bind λc=>brn (jQ c) ((QT (A.sl 1 [[c]])).bind λc=>jC c b λb=>jm7 a (vi 10) λa=>jmp a b) none) (jC (sv [109]) b λa=>jh a):=hq Tryz.func41
theorem g44:G 44 [a,b]=jd 3 a λa=>kF 33 [A.agg [jc a 1,jc a 2],b] λa=>jL a (vi 0) (jh (vi (- 1))) (jh a):=gq Tryz.func44
theorem g45:G 45 [a]=jd 1 a λa=>ky (jc a 0) λb=>yr b (vi 8) (jh (vb false)) (jmq (vi 0) (jc a 0)):=gq Tryz.func45
theorem juZ:jmq a b=Yf a b (jd8 2 3 b a 1 λc=>kFN 86 [c] λc=>kA c a λd=>zL c (jq .gtr false d (vi 0)) λd=>kA c d λd=>jx d true λ_=>jW d b λe=>jW d a λf=>zm d (jq .sub false f (vi 1)) λf=>zm d (jz 3 e f) λe=>zm d (jbr 3 e) λe=>jx d true λ_=>jW d b λf=>jW d a λg=>zm d (jz 3 f g) λf=>zm d (jbr 3 f) λf=>yn d 87 [e,f] λe=>zm d (jq .geq false e (vi 0)) λe=>zL c (JC d e (vb false)) λd=>yU c (vb true) d (jh (vb false)) (jC a (vi 1) λa=>jmq a b)) (jh (vb true)):=hq Tryz.func45
theorem g46:G 46 [a]=jd 1 a λa=>kF 88 [zn a] λa=>jmr a (vi 0):=gq Tryz.func46
theorem ju0:jmr a b=Yf b a (kIP 1 a b λc=>kF 89 [b] λd=>jC (sv [88]) d λd=>zZ c d (jh (vb false)) (jC b (vi 1) λb=>jmr a b)) (jh (vb true)):=hq Tryz.func46
theorem g47:G 47 [a,b,c]=jte a b c:=gq Tryz.func47
theorem g50:G 50 [a,b]=jd 1 a λa=>(G 93 [zn a,b]).bind λa=>zO a λa=>kM a 0 λb=>kM a 1 λa=>jd 1 b λb=>K9 a (jh (A.tup [A.agg [A.sl 3 []],vb false])) ((G 94 [zn b]).bind λa=>zO a λa=>kM a 0 λb=>kM a 1 λa=>jd 1 b λb=>QL a λa=>jx a false λ_=>Qg a 46 [zn b] λc=>zL a (Zl .not c) λc=>yU a (vb true) c (jh (A.tup [A.agg [A.sl 3 []],vb false])) (brn (jQ (jc b 0)) (jh (A.tup [zn b,vb true])) none)):=gq Tryz.func50
theorem jxB:jpp a=jd 3 a λa=>brn (jQ (jc a 0)) ((jml (jc a 1) (jc a 2)).bind λb=>kHD b 0 λc=>JU 66 b 1 λb=>brn (jQ c) (brn (jQ (jc a 0)) (brn (jQ c) (some (A.top,[jc a 0,c,A.sl 66 b])) none) none) none) none:=vq Tryz.func52
theorem g53:G 53 [a]=jd 1 a λa=>ky (jc a 0) λb=>jmu (jc a 0) b (vi 0) (jc a 0):=gq Tryz.func53
theorem ju4:jmu a b c d=jL c b (qu 3 3 a c λe=>jd 3 e λe=>kFN 95 [jtA e] λf=>kA f c λg=>zL f (jq .gtr false g (vi 0)) λg=>kA f g λg=>jx g true λ_=>jW g d λh=>jW g c λi=>zm g (jq .sub false i (vi 1)) λi=>zm g (jz 3 h i) λh=>zm g (jbr 3 h) λh=>jx g true λ_=>yn g 96 [h,jtA e] λe=>zm g (jq .geq false e (vi 0)) λe=>zL f (JC g e (vb false)) λe=>yU f (vb true) e (jh (vb false)) (jC c (vi 1) λc=>jmu a b c d)) (ky d λa=>jd9 a (vi 8) λa=>jh a):=hq Tryz.func53
theorem g54:G 54 [a]=jd 1 a λa=>kF 97 [zn a] λa=>ky a λb=>jmv a b (vi 0):=gq Tryz.func54
theorem ju5:jmv a b c=jL c b (kIP 1 a c λd=>kF 98 [c] λe=>jC (sv [88]) e λe=>zZ d e (jh (vb false)) (jC c (vi 1) λc=>jmv a b c)) (jh (vb true)):=hq Tryz.func54
theorem g56:G 56 [a]=jd 2 a λa=>yY (jc a 0) (sv [61]) λa=>jh a:=gq Tryz.func56
theorem g59:G 59 [a,b]=jd 3 a λa=>jd 3 b λb=>(jq .neq true (jc a 0) (jc b 0)).bind λc=>JK c (jh (vb false)) (kF 40 [A.agg [jc a 1,jc a 2],A.agg [jc b 1,jc b 2]] λa=>K9 a (jh (vb false)) (jh (vb true))):=gq Tryz.func59
theorem g6:G 6 [a,b]=jd 1 a λa=>kF 24 [jc a 0,b] λa=>jL a (vi 0) (jh (vi (- 1))) (jh a):=gq Tryz.func6
theorem g60:G 60 [a,b]=jmy a b (vi 0):=gq Tryz.func60
theorem ju9:jmy a b c=Yf c a (jcX 2 a c 0 λd=>kF 41 [b] λe=>zZ d e (jh (vi (- 1))) (jC b (vi 1) λb=>jcX 2 a c 1 λd=>kF 60 [d,b] λb=>jL b (vi 0) (jh (vi (- 1))) (jC c (vi 1) λc=>jmy a b c))) (jh b):=hq Tryz.func60
theorem g61:G 61 [a]=jd 2 a λa=>kF 86 [j8 a] λb=>jx b true λ_=>jW b (jc a 0) λc=>zm b (jq .eql false c (sv [61])) λc=>ko b c (vb false) λb=>jx b true λ_=>jW b (jc a 1) λc=>zm b (jz 2 c (vi 0)) λc=>zm b (jbr 2 c) λc=>jx b true λ_=>jW b (jc a 1) λa=>zm b (jz 2 a (vi 1)) λa=>zm b (jbr 2 a) λa=>yn b 76 [c,a] λa=>zm b (jq .eql false a (vi 2)) λa=>ko b a (vb false) λa=>jh a:=gq Tryz.func61
theorem g62:G 62 [a,b,c]=jd 2 a λa=>(G 104 [j8 a]).bind λa=>zO a λa=>jd 2 a λa=>jEO b c (vi 0) (sv []) (jc a 0) (jc a 1) []:=gq Tryz.func62
theorem jHi:jEO a b c d e f p=kF2 105 [A.agg [e,f],a,b] λg h=>jd 2 g λg=>K9 h (brn (jQ e) (brn (jQ f) (jh (A.tup [A.agg [e,f],c,vb true])) none) none) (yY c (vi 50) λe=>jx e false λ_=>Qg e 106 [j8 g] λf=>zL e (Zl .not f) λf=>yU e (vb true) f (jh (A.tup [A.agg [sv [],A.sl 2 []],vi 0,vb false])) (brn (jQ (jc g 0)) (brn (jQ (jc g 1)) (jC c (vi 1) λc=>jEO a b c d (jc g 0) (jc g 1) p) none) none)):=hq Tryz.func62
theorem g63:G 63 [a,b]=kF 107 [a,b] λa=>jaK a (vi 0) λa=>jh a:=gq Tryz.func63
theorem g64:G 64 [a]=jd 2 a λa=>kFN 65 [j8 a] λa=>jh a:=gq Tryz.func64
theorem g65:G 65 [a]=jd 2 a λa=>kF 56 [j8 a] λb=>jx b true λ_=>yn b 108 [j8 a] λc=>ko b c (vb false) λb=>jx b true λ_=>jW b (jc a 1) λc=>zm b (jz 2 c (vi 0)) λc=>zm b (jbr 2 c) λc=>jx b true λ_=>jW b (jc a 1) λa=>zm b (jz 2 a (vi 1)) λa=>zm b (jbr 2 a) λa=>yn b 83 [c,a] λa=>zm b (jq .eql false a (vi 2)) λa=>ko b a (vb false) λa=>jh a:=gq Tryz.func65
theorem g66:G 66 [a]=jd 2 a λa=>(jgR (jc a 1)).bind λb=>JU 66 b 0 λb=>brn (jQ (jc a 0)) (brn (jQ (jc a 0)) (jh (A.agg [jc a 0,A.sl 2 b])) none) none:=gq Tryz.func66
theorem jxC:jfA a=jd 2 a λa=>(jgR (jc a 1)).bind λb=>JU 66 b 0 λb=>brn (jQ (jc a 0)) (jp8 a b) none:=vq Tryz.func66
theorem jHc:jy2 a b c=jd 2 a λa=>ky (jc a 1) λd=>jCx b c (jc a 1) d (vi 0) (jc a 0) (jc a 1) (sv []) []:=vq Tryz.func67
theorem jFH:jCx a b c d e f g h p=jL e d (qu 2 2 c e λi=>jd 2 i λi=>(jy2 (j8 i) a (vb true)).bind λi=>kHD i 0 λj=>kHD i 1 λk=>JU 578 i 2 λi=>brn (yb j) (brn (yb k) (JK k (brn (jQ j) (JK k ((jfA (A.agg [f,g])).bind λa=>kHD a 0 λb=>JU 66 a 1 λa=>brn (yb b) (brn (jQ b) (QK (jA a) e λc=>brn (jQ j) (brn (kO j) (kRG a c λd=>brn (jQ b) (some (A.top,[b,vb true,A.sl 578 (yh a c (zf d 0 [j,A.sl 2 i]))])) none) none) none) none) none) (jC e (vi 1) λe=>jCx a b c d e f g h p)) none) (brn (jQ j) (JK k ((jfA (A.agg [f,g])).bind λa=>kHD a 0 λb=>JU 66 a 1 λa=>brn (yb b) (brn (jQ b) (QK (jA a) e λ_=>brn (jQ j) none none) none) none) (jC e (vi 1) λe=>jCx a b c d e f g h p)) none)) none) none) (ky a λc=>jBw b a c (vi 0) f g h p):=hq Tryz.func67
theorem jFI:jBw a b c d e f g p=jL d c (qu 2 2 b d λh=>jd 2 h λh=>jx a true λ_=>jx a true λ_=>jW a (jc h 1) λi=>zm a (jz 2 i (vi 0)) λi=>zm a (jbr 2 i) λi=>jx a true λ_=>jx a true λj=>brn j ((jBP i e f []).bind λi=>kHD i 0 λj=>JU 128 i 1 λi=>yU a j (vb false) (qu 2 2 (jc h 1) (vi 1) λa=>(jDx a (A.mp i)).bind λa=>jqa a) (jC d (vi 1) λd=>jBw a b c d e f g p)) (yU a (A.val undef) (vb false) (qu 2 2 (jc h 1) (vi 1) λa=>(jDx a (A.mp [])).bind λa=>jqa a) (jC d (vi 1) λd=>jBw a b c d e f g p))) (some (A.top,[sv [],vb false,A.sl 578 []])):=hq Tryz.func67
theorem g68:G 68 [a]=jd 2 a λa=>kF 112 [j8 a] λb=>jd9 b (vi 30) λb=>jx b true λ_=>yn b 113 [j8 a] λa=>zm b (jq .leq false a (vi 8)) λa=>ko b a (vb false) λa=>jh a:=gq Tryz.func68
theorem g69:G 69 [a,b]=jd 1 a λa=>ky b λc=>jmz b c (vi 0) (jc a 0) [] []:=gq Tryz.func69
theorem jva:jmz a b c d p q=jL c b (qu 3 3 a c λe=>jd 3 e λe=>(G 82 [A.agg [d],A.agg [jc e 1,jc e 2]]).bind λf=>zO f λf=>kM f 0 λg=>kM f 1 λf=>jd 2 g λg=>K9 f (jh (A.tup [A.agg [A.sl 3 []],vb false])) (brn (jQ (jc e 0)) (brn (jQ (jc g 0)) (brn (jQ (jc g 1)) (brn (jQ (jc e 0)) (brn (jQ (jc g 0)) (brn (jQ (jc g 1)) (brn (jO ((jA p)+(jA [[jc e 0,jc g 0,jc g 1]])) 48) (jC c (vi 1) λc=>jmz a b c d (j4 p [[jc e 0,jc g 0,jc g 1]]) q) none) none) none) none) none) none) none)) ((jgS (A.sl 3 p)).bind λa=>JU 67 a 0 λa=>(G 114 [A.agg [A.sl 3 a]]).bind λa=>zO a λa=>kM a 0 λb=>kM a 1 λa=>jd 1 b λb=>jh (A.tup [zn b,a])):=hq Tryz.func69
theorem jxD:jpq a=jd 1 a λa=>(jkP (jc a 0)).bind λa=>JU 67 a 0 λa=>jhj (vi 0) a []:=vq Tryz.func70
theorem jtG:jhj a p q=jtf a p q:=hq Tryz.func70
theorem jne:jhk a p q=jtf a q p:=hq Tryz.func70
theorem g72:G 72 [a,b]=jd 2 a λa=>jCb b (vi 0) (jc a 0) (jc a 1) (sv []) []:=gq Tryz.func72
theorem jD0:jCb a b c d e p=Yf b a (kIP 1 a b λc=>ky d λf=>jcx f (vi 1) λf=>kF 47 [c,vi 0,f] λc=>K9 c (jh (A.tup [A.agg [sv [],A.sl 2 []],vb false])) (kIP 1 a b λc=>qu 2 2 d c λc=>jd 2 c λc=>jC b (vi 1) λb=>jCb a b (jc c 0) (jc c 1) e p)) ((G 104 [A.agg [c,d]]).bind λa=>zO a λa=>jd 2 a λa=>jh (A.tup [j8 a,vb true])):=hq Tryz.func72
theorem g73:G 73 [a]=kLS a λb=>kFN 47 [b,vi 1,vi 4] λb=>kA b a λc=>zL b (zj c (vi 0)) λc=>zL b (jq .lss false c (vy 65)) λc=>ko b (vb true) c λb=>kA b a λc=>zL b (zj c (vi 0)) λc=>zL b (jq .gtr false c (vy 90)) λc=>yU b (vb true) c (jh (vb false)) (jfE a (vi 1)):=gq Tryz.func73
theorem jvb:jfE a b=kLS a λc=>jL b c (kIS a b λc=>kF 120 [c] λc=>K9 c (jh (vb false)) (jC b (vi 1) λb=>jfE a b)) (jh (vb true)):=hq Tryz.func73
theorem g74:G 74 [a,b]=jd 1 a λa=>jd 2 b λb=>kF 73 [jc b 0] λc=>JK c (kF 121 [zn a,jc b 0] λc=>jhF c (vi 0) (jd8 2 3 (jc a 0) c 1 λa=>(G 104 [a]).bind λa=>zO a λa=>jd 2 a λa=>jh (j8 a)) (e_2 b)) (brn (jQ (jc b 0)) (brn (jQ (jc b 0)) (jmA (vi 0) (jc a 0) (jc b 0) (jc b 1) (sv []) (jc b 0) [] []) none) none):=gq Tryz.func74
theorem jvc:jmA a b c d e f p q=Yf a d (qu 2 2 d a λg=>(G 74 [A.agg [b],g]).bind λg=>zO g λg=>jd 2 g λg=>brn (jO ((jA q)+(jA [[jc g 0,jc g 1]])) 40) (jC a (vi 1) λa=>jmA a b c d e f p (j4 q [[jc g 0,jc g 1]])) none) (brn (jQ f) (jh (A.agg [f,A.sl 2 q])) none):=hq Tryz.func74
theorem g75:G 75 [a]=jd 2 a λa=>kF 122 [j8 a] λb=>jx b true λ_=>yn b 123 [j8 a] λa=>ko b a (vb false) λa=>jh a:=gq Tryz.func75
theorem g76:G 76 [a,b]=jd 2 a λa=>jd 2 b λb=>kF 91 [j8 a,j8 b] λc=>JK c (jh (vi 1)) (kF 124 [A.sl 1 [],j8 a] λc=>kF 124 [c,j8 b] λc=>brn (jQ c) (brn (jQ c) (ky c λd=>yY d (vi 0) λd=>jx d false λ_=>kA d c λe=>zL d (zG e) λe=>zL d (jq .gtr false e (vi 12)) λe=>yU d (vb true) e (jh (vi 0)) (jBv (vi 0) (jc a 0) (jc a 1) (jc b 0) (jc b 1) c (vi 1) [])) none) none):=gq Tryz.func76
theorem jD1:jBv a b c d e f g p=Yf a f (brn (jO ((jA p)+(jA [[vi 1]])) 8) (jC a (vi 1) λa=>jBv a b c d e f g (j4 p [[vi 1]])) none) (kfn true (G 125 [A.agg [f,A.sl 1 p,g],A.agg [b,c],A.agg [d,e]]) λa=>kM a 0 λb=>kM a 1 λa=>K9 a (jh (vi 0)) (jh b)):=hq Tryz.func76
theorem g77:G 77 [a,b,c]=jd 2 a λa=>jd 2 c λc=>ky b λd=>qg d (vi 0) ((jA5 (jc c 0) (jc c 1)).bind λa=>kHD a 0 λb=>JU 2 a 1 λa=>brn (jQ b) (jh (A.agg [b,A.sl 2 a])) none) ((jA5 (jc a 0) (jc a 1)).bind λd=>kHD d 0 λe=>JU 2 d 1 λd=>brn (jQ e) (kIP 1 b (vi 0) λf=>kIP 1 b (vi 0) λg=>qu 2 2 (jc a 1) g λa=>kSl 1 b (some (vi 1)) none λb=>kF 77 [a,b,j8 c] λa=>QK (jA d) f λb=>jd 2 a λa=>kRG d b λc=>brn (jQ e) (jh (A.agg [e,A.sl 2 (yh d b (zf c 0 [jc a 0,jc a 1]))])) none) none):=gq Tryz.func77
theorem g78:G 78 [a,b,c]=jte a b c:=gq Tryz.func78
theorem g81:G 81 [a]=jd 2 a λa=>kIS (jc a 0) (vi 0) λa=>kF 126 [a] λa=>jh a:=gq Tryz.func81
theorem g82:G 82 [a,b]=jd 1 a λa=>jd 2 b λb=>kF 127 [zn a,j8 b] λa=>jd 2 a λa=>kF 68 [j8 a] λb=>K9 b (jh (A.tup [A.agg [sv [],A.sl 2 []],vb false])) (brn (jQ (jc a 0)) (brn (jQ (jc a 1)) (jh (A.tup [j8 a,vb true])) none) none):=gq Tryz.func82
theorem g83:G 83 [a,b]=jd 2 a λa=>jd 2 b λb=>kF 99 [j8 a,j8 b] λc=>JK c (jh (vi 1)) ((jin (jc a 0) (jc a 1) []).bind λc=>JU 1 c 0 λc=>(jin (jc b 0) (jc b 1) c).bind λc=>JU 1 c 0 λc=>yr (qS c) (vi 12) (jh (vi 0)) ((jyi c).bind λc=>JU 1 c 0 λc=>(jBU (qS c) [[vi 1]]).bind λd=>JU 1 d 0 λd=>kfn true (G 131 [A.agg [A.sl 1 c,A.sl 1 d,vi 1],j8 a,j8 b]) λa=>jh a)):=gq Tryz.func83
theorem g86:G 86 [a]=jd 2 a λa=>qg (jc a 0) (sv [61]) (ky (jc a 1) λb=>yY b (vi 2) λb=>jx b true λ_=>yn b 122 [j8 a] λc=>ko b c (vb false) λb=>jx b true λ_=>jW b (jc a 1) λc=>zm b (jz 2 c (vi 0)) λc=>zm b (jbr 2 c) λc=>yn b 123 [c] λc=>ko b c (vb false) λb=>jx b true λ_=>jW b (jc a 1) λa=>zm b (jz 2 a (vi 1)) λa=>zm b (jbr 2 a) λa=>yn b 123 [a] λa=>ko b a (vb false) λa=>jh a) (kF 133 [jc a 0] λb=>jx b true λ_=>yn b 75 [j8 a] λa=>ko b a (vb false) λa=>jh a):=gq Tryz.func86
theorem g87:G 87 [a,b]=jd 3 a λa=>jd 3 b λb=>kF 134 [A.agg [jc a 1,jc a 2],A.agg [jc b 1,jc b 2]] λc=>zZ c (vi 0) (jh c) (QL (jc a 0) λc=>jx c true λ_=>jW c (jc b 0) λd=>yU c d (vb false) (jh (vi (- 1))) (jx (jc a 0) true λ_=>jW (jc a 0) (jc b 0) λb=>zm (jc a 0) (Zl .not b) λb=>yU (jc a 0) b (vb false) (jh (vi 1)) (jh (vi 0)))):=gq Tryz.func87
theorem g88:G 88 [a]=jd 1 a λa=>jiu (vi 0) (jc a 0) []:=gq Tryz.func88
theorem jvd:jiu a b p=Yf a b (jd8 2 3 b a 1 λc=>(jgU c p).bind λc=>JU 1 c 0 λc=>jC a (vi 1) λa=>jiu a b c) (jh (A.sl 1 p)):=hq Tryz.func88
theorem g89:G 89 [a]=jL a (vi 0) ((Zl .neg a).bind λa=>kF 89 [a] λa=>jC (sv [45]) a λa=>jh a) (jL a (vi 10) (jC a (vi 1) λb=>(ZD (sv [48,49,50,51,52,53,54,55,56,57]) (some a) (some b)).bind λa=>jh a) (jm7 a (vi 10) λb=>kF 89 [b] λb=>(jq .rem false a (vi 10)).bind λc=>(jq .rem false a (vi 10)).bind λa=>jC a (vi 1) λa=>(ZD (sv [48,49,50,51,52,53,54,55,56,57]) (some c) (some a)).bind λa=>jC b a λa=>jh a)):=gq Tryz.func89
theorem jzq:jnL a=brn (jQ a) ((jpj a).bind λa=>JU 67 a 0 λa=>some (A.top,[A.sl 67 a])) none:=vq Tryz.func8
theorem g91:G 91 [a,b]=jd 2 a λa=>jd 2 b λb=>K8 (jc a 0) (jc b 0) λc=>jx c false λ_=>kA c (jc a 1) λd=>zL c (zG d) λd=>jx c false λ_=>kA c (jc b 1) λe=>zL c (zG e) λe=>zL c (jq .neq false d e) λd=>yU c (vb true) d (jh (vb false)) (jmB (vi 0) (jc a 0) (jc a 1) (jc b 0) (jc b 1)):=gq Tryz.func91
theorem jve:jmB a b c d e=Yf a c (qu 2 2 c a λf=>qu 2 2 e a λg=>kF 91 [f,g] λf=>K9 f (jh (vb false)) (jC a (vi 1) λa=>jmB a b c d e)) (jh (vb true)):=hq Tryz.func91
theorem g93:G 93 [a,b]=jd 1 a λa=>jmC b (vi 0) (jc a 0) [] []:=gq Tryz.func93
theorem jvf:jmC a b c p q=Yf b a (jd8 2 3 a b 1 λd=>(G 74 [A.agg [c],d]).bind λd=>zO d λd=>jd 2 d λd=>kF 86 [j8 d] λe=>K9 e (jh (A.tup [A.agg [A.sl 3 []],vb false])) (jcX 3 a b 0 λe=>brn (jQ e) (brn (jQ (jc d 0)) (brn (jQ (jc d 1)) (brn (jQ e) (brn (jQ (jc d 0)) (brn (jQ (jc d 1)) (brn (jO ((jA p)+(jA [[e,jc d 0,jc d 1]])) 48) (jC b (vi 1) λb=>jmC a b c (j4 p [[e,jc d 0,jc d 1]]) q) none) none) none) none) none) none) none)) ((G 141 [A.sl 3 p]).bind λa=>zO a λa=>jd 1 a λa=>kF 45 [zn a] λb=>e_0 b a):=hq Tryz.func93
theorem g94:G 94 [a]=jd 1 a λa=>(G 141 [jc a 0]).bind λa=>zO a λa=>jd 1 a λa=>jmD (vi 0) (jc a 0) []:=gq Tryz.func94
theorem jvg:jmD a b p=K7 a (vi 10) λc=>jx c true λ_=>yn c 46 [A.agg [b]] λd=>zm c (Zl .not d) λd=>yU c d (vb false) (kF 88 [A.agg [b]] λc=>kF 119 [A.agg [b],c,sv [88]] λb=>jd 1 b λb=>jC a (vi 1) λa=>jmD a (jc b 0) p) (kF 45 [A.agg [b]] λa=>brn (jQ b) (jh (A.tup [A.agg [b],a])) none):=hq Tryz.func94
theorem g95:G 95 [a]=jd 3 a λa=>kF 108 [A.agg [jc a 1,jc a 2]] λa=>jh a:=gq Tryz.func95
theorem g96:G 96 [a,b]=jd 3 a λa=>jd 3 b λb=>kF 143 [A.agg [jc a 1,jc a 2],A.agg [jc b 1,jc b 2]] λc=>kF 145 [jc a 0] λa=>kF 145 [jc b 0] λb=>kF 144 [a,b] λa=>brn (jQ c) (brn (jQ a) (kfn true (G 142 [A.sl 1 [[c],[a]]]) λa=>jh a) none) none:=gq Tryz.func96
theorem g97:G 97 [a]=jd 1 a λa=>ky (jc a 0) λb=>jiv (jc a 0) b (vi 0) []:=gq Tryz.func97
theorem jvh:jiv a b c p=jL c b (qu 3 3 a c λd=>jd 3 d λd=>(jdm (jc d 1) (jc d 2) p).bind λd=>JU 1 d 0 λd=>jC c (vi 1) λc=>jiv a b c d) (jh (A.sl 1 p)):=hq Tryz.func97
theorem jxE:jpr a=jd 1 a λa=>ky (jc a 0) λb=>jaj (jc a 0) b (vi 0) []:=vq Tryz.func97
theorem jnf:jaj a b c p=jL c b (qu 3 3 a c λd=>jd 3 d λd=>(jdm (jc d 1) (jc d 2) p).bind λd=>JU 1 d 0 λd=>jC c (vi 1) λc=>jaj a b c d) (some (A.top,[A.sl 1 p])):=hq Tryz.func97
theorem g99:G 99 [a,b]=jd 2 a λa=>jd 2 b λb=>yY (jc a 0) (jc b 0) λc=>jx c true λ_=>jW c (jc a 1) λa=>jx c true λ_=>jW c (jc b 1) λb=>yn c 148 [a,b,A.fn 99 []] λa=>ko c a (vb false) λa=>jh a:=gq Tryz.func99
end
end
end Go.Proofs.YtkkcepmpbackoaaGreatDoor
