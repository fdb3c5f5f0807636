/- Pq -/
import Derived.Test.YtjbkclajpheekaaGreatKt
import Derived.KernelRfl
set_option linter.unusedVariables false
namespace Go.Proofs.YtjbkclajpheekaaGreat
open Go Go.RowKit Go.Proofs.YtjbkclajpheekaaGreat.Abs
set_option linter.unusedSimpArgs false
set_option linter.unusedVariables false
noncomputable section
def vT:V:=V.top
def vD (a:A):V:=V.d a
def vP (i:Nat):V:=V.ptr i 0
def vR (i:Nat):V:=V.row i
def tp (n:Nat):List V:=List.replicate n vT
def pth:Nat->Nat->List Nat
 | 0,_=>[]
 | k+1,n=>if Nat.ble n 1 then [] else pth k (n/10)++[n%10]
def hs (sh:Option (List Nat)) (f p:Nat) (l:List V) (n:Nat) (ob:List Abs.Obj):Option Out:=MM K (.head f (pth 60 p) (l++tp n) ob sh)
def hd (f p:Nat) (l:List V) (n:Nat) (ob:List Abs.Obj):Option Out:=hs none f p l n ob
theorem gq {f:FuncId} {fn:Func} {l:List A} {r:Option Out} (h3:Tryz.prog.funcs[f]? = some fn) (h2:K.pureF f=true:=by exact rfl) (h4:fn.body.isSome=true:=by exact rfl) (h5:Nat.ble l.length fn.ntmps=true:=by exact rfl) (h1:K.ext f=none:=by exact rfl) (e:evC K (MM K) f (codeOf fn) [] (K4 fn l) (Je K f fn)=r:=by kernel_rfl):G f l=r:=(jrD h2 h3 h4 h5 h1).trans e
theorem vq {f:FuncId} {fn:Func} {l:List V} {ob:List Abs.Obj} {r:Option Out} (h3:Tryz.prog.funcs[f]? = some fn) (h1:K.extv f=none:=by exact rfl) (h4:fn.body.isSome=true:=by exact rfl) (h5:Nat.ble l.length fn.ntmps=true:=by exact rfl) (e:evC K (MM K) f (codeOf fn) [] (YJ fn l ob) (Je K f fn)=r:=by kernel_rfl):MM K (.callv f l ob)=r:=(jrI h1 h3 h4 h5).trans e
theorem hq {f:FuncId} {fn:Func} {p:List Nat} {l:List V} {ob:List Abs.Obj} {sh:Option (List Nat)} {r:Option Out} (h3:Tryz.prog.funcs[f]? = some fn) (h4:fn.body.isSome=true:=by exact rfl) (e:evAt K (MM K) f (codeOf fn) p [] (St.of fn.ntmps l ob sh) (Je K f fn)=r:=by kernel_rfl):MM K (.head f p l ob sh)=r:=(jrF h3 h4).trans e
section
variable {B:Type}
def jl (n:Nat) (a:A) (k0:List A->Option B):Option B:=(YD n a).bind k0
def jb0 (t:A) (n:Nat) (k0:A->Option B):Option B:=(jci t n).bind k0
def jY (t x y:A) (k0:A->Option B):Option B:=(Zb t x y).bind k0
def jI (t:A) (w:Bool) (k0:Bool->Option B):Option B:=(qY t w).bind k0
def zy (l:A) (k0:A->Option B):Option B:=(qe l).bind k0
def kLN (n:Nat) (a:A) (k0:A->Option B):Option B:=(zz n a).bind k0
def kX (t x:A) (k0:A->Option B):Option B:=(pG t true (some x)).bind k0
def j9 (t x:A) (k0:A->Option B):Option B:=(pG t false (some x)).bind k0
def yS (t:A) (x:Option A) (k0:A->Option B):Option B:=(pG t true x).bind k0
def yv (t:A) (x:Option A) (k0:A->Option B):Option B:=(pG t false x).bind k0
def yT (t:A) (n:Nat) (l:List A) (k0:A->Option B):Option B:=(pG t true ((G n l).bind (fin false))).bind k0
def Z8 (t:A) (n:Nat) (l:List A) (k0:A->Option B):Option B:=(pG t false ((G n l).bind (fin false))).bind k0
def kF (n:Nat) (l:List A) (k0:A->Option B):Option B:=((G n l).bind (fin false)).bind k0
def jgd (o:Out) (k0:A->Option B):Option B:=(fin false o).bind k0
def kfn (b:Bool) (x:Option Out) (k0:A->Option B):Option B:=(x.bind (fin b)).bind k0
def jj6 (x:A) (k0:A->Option B):Option B:=(pUn .not x).bind k0
def KR (o:Out) (i:Nat) (k0:A->Option B):Option B:=(hD o i).bind k0
def Jo (k:Nat) (o:Out) (i:Nat) (k0:List (List A)->Option B):Option B:=(hR k o i).bind k0
def kIx (n:Nat) (i:A) (k0:Nat->Option B):Option B:=(pIx n i).bind k0
def kB (d t:Nat) (x:Option A) (k0:Nat->Option B):Option B:=(pB d t x).bind k0
def kRN (l:List (List A)) (i j n:Nat) (k0:A->Option B):Option B:=(jmq l i j n).bind k0
def kRG (l:List (List A)) (i:Nat) (k0:List A->Option B):Option B:=(Zy l i).bind k0
def kIS (a i:A) (k0:A->Option B):Option B:=(jaH a i).bind k0
def kSl (k:Nat) (a:A) (x y:Option A) (k0:A->Option B):Option B:=(zU k a x y).bind k0
def kRP (l:List (List A)) (i j:Nat) (k0:A->Option B):Option B:=(jmr l i j).bind k0
def kMk (n:Nat) (a b:A) (k0:Nat->Option B):Option B:=(jaF n a b).bind k0
def kRs (k:Nat) (a:A) (k0:List (List A)->Option B):Option B:=(qX k a).bind k0
def kLS (a:A) (k0:A->Option B):Option B:=(Qr a).bind k0
def jN (x y:A) (k0:A->Option B):Option B:=(jD .add false x y).bind k0
def yA (x y:A) (k0:A->Option B):Option B:=(jD .eql false x y).bind k0
def Yh (x y:A) (k0:A->Option B):Option B:=(jD .geq false x y).bind k0
def jf9 (x y:A) (k0:A->Option B):Option B:=(jD .gtr false x y).bind k0
def jjd (x y:A) (k0:A->Option B):Option B:=(jD .leq false x y).bind k0
def jav (x y:A) (k0:A->Option B):Option B:=(jD .lss false x y).bind k0
def joA (x y:A) (k0:A->Option B):Option B:=(jD .mul false x y).bind k0
def jga (x y:A) (k0:A->Option B):Option B:=(jD .neq false x y).bind k0
def jlN (x y:A) (k0:A->Option B):Option B:=(jD .quo false x y).bind k0
def joB (x y:A) (k0:A->Option B):Option B:=(jD .shr false x y).bind k0
def jaw (x y:A) (k0:A->Option B):Option B:=(jD .sub false x y).bind k0
def QI (t:A) (X Y:Option B):Option B:=(yc t).bind λu=>brn u X Y
def QH (c x y:A) (X Y:Option B):Option B:=(Zb c x y).bind λt=>(yc t).bind λu=>brn u X Y
def kbN (x:A) (X Y:Option B):Option B:=(pUn .not x).bind λt=>(yc t).bind λu=>brn u X Y
def kLb (i l:A) (X Y:Option B):Option B:=(qe l).bind λn=>(jD .lss false i n).bind λt=>(yc t).bind λu=>brn u X Y
def kF2 (n:Nat) (l:List A) (k:A->A->Option B):Option B:=((G n l).bind (fin false)).bind λt=>(jci t 0).bind λa=>(jci t 1).bind λb=>k a b
def kFN (n:Nat) (l:List A) (k:A->Option B):Option B:=((G n l).bind (fin false)).bind λt=>(pUn .not t).bind k
def KS (n m:Nat) (x i:A) (k:A->Option B):Option B:=(jw m x i).bind λt=>(zz n t).bind k
def kIP (m:Nat) (x i:A) (k:A->Option B):Option B:=(jw m x i).bind λt=>(yW t).bind k
def jqV (n m:Nat) (x i:A) (o:Nat) (k:A->Option B):Option B:=(jw m x i).bind λt=>(jeX t o).bind λt=>(zz n t).bind k
def jnF (m:Nat) (x i:A) (o:Nat) (k:A->Option B):Option B:=(jw m x i).bind λt=>(jeX t o).bind λt=>(yW t).bind k
def jP (x y:A) (X Y:Option B):Option B:=(jD .lss false x y).bind λt=>(yc t).bind λu=>brn u X Y
def jhE (x y:A) (X Y:Option B):Option B:=(jD .leq false x y).bind λt=>(yc t).bind λu=>brn u X Y
def Yv (x y:A) (X Y:Option B):Option B:=(jD .gtr false x y).bind λt=>(yc t).bind λu=>brn u X Y
def jlO (x y:A) (X Y:Option B):Option B:=(jD .geq false x y).bind λt=>(yc t).bind λu=>brn u X Y
def qR (x y:A) (X Y:Option B):Option B:=(jD .eql false x y).bind λt=>(yc t).bind λu=>brn u X Y
def yw (x y:A) (X Y:Option B):Option B:=(jD .neq false x y).bind λt=>(yc t).bind λu=>brn u X Y
def jo (x:A):Option Out:=some (x,[])
def jqX (t:List A):A:=A.agg [jc t 0]
def kJ (t:List A):A:=A.agg [jc t 0,jc t 1]
def Jy (t:List A):A:=A.agg [jc t 0,jc t 1,jc t 2]
end
section
variable (a b c d e f g h i j k l m n o aa ab ac ad ae af ag ah ai aj ak al am:A) (p q r s t u v w x y z:List (List A))
def js2:=MM K (.callv 100 [vD a,V.agg [V.d b,V.d c],vR 0] [.row 3 p])
def jm9:=hs (some [0]) 100 11010010 [vT,vT,vR 0,vP 1,vP 2,vT,vT,vT,vD a] 77 [.row 3 p,.box [vD b,vD c],.box [vD d,vD e]]
def jrs:=hs (some [0]) 100 1111010 ([vT,vT,vR 0,vP 1,vP 2]++tp 4++[vD a]) 76 [.row 3 p,.box [vD b,vD c],.box [vD d,vD e]]
def jrt:=hs (some [3]) 100 1111010 ([vT,vT,vR 0,vP 1,vP 2]++tp 4++[vD a]) 76 [.row 3 p,.box [vD b,vD c],.box [vD d,vD e],.gone]
def jvG:=hs (some [3]) 100 1111010 ([vT,vT,vR 0,vP 1,vP 2]++tp 4++[vD a]) 76 [.gone,.box [vD b,vD c],.box [vD d,vD e],.gone]
def jm8:=MM K (.callv 100 [vD a,vD b,vR 0] [.row 3 p])
def jna:=hs (some [0]) 100 11010010 [vT,vT,vR 0,vP 1,vP 2,vT,vT,vT,vD a] 77 [.row 3 p,.box [vD b,vD c],.box [vD d,vD e]]
def jru:=hs (some [0]) 100 1111010 ([vT,vT,vR 0,vP 1,vP 2]++tp 4++[vD a]) 76 [.row 3 p,.box [vD b,vD c],.box [vD d,vD e]]
def jrv:=hs (some [3]) 100 1111010 ([vT,vT,vR 0,vP 1,vP 2]++tp 4++[vD a]) 76 [.row 3 p,.box [vD b,vD c],.box [vD d,vD e],.gone]
def jvH:=hs (some [3]) 100 1111010 ([vT,vT,vR 0,vP 1,vP 2]++tp 4++[vD a]) 76 [.gone,.box [vD b,vD c],.box [vD d,vD e],.gone]
def jtX:=hd 102 1111010 [vT,vT,vP 0,vP 1,vP 2,vT,vP 3,vD a] 42 [.box [vD b],.box [vD c,vD d],.box [vD e,vR 4],.box [vD f,vR 5],.row 2 p,.row 2 q]
def jtY:=hd 103 111010 [vD a,vT,vP 0,vP 1,vD b] 20 [.box [vR 2],.box [vR 3],.row 3 p,.row 3 q]
def jel:=hd 104 111010 [vT,vD a,vP 0,vT,vT,vD b,vD c] 24 [.box [vD d,vD e]]
def jem:=hd 105 111010 [vT,vP 0,vT,vD a,vD b] 17 [.box [vD c,vD d]]
def jen:=hd 106 11010 ([vD a,vD b]++tp 5++[vD c,vD d]) 10 []
def jq4:=MM K (.callv 108 [vR 0,vD a,V.agg [V.d b,V.d c]] [.map p])
def jnG:=hs (some [0]) 108 1111010 ([vR 0]++tp 4++[vP 1]++tp 46++[vD a,vD b,vD c]) 14 [.map p,.box [vD d,vD e]]
def jeb:=MM K (.callv 108 [vR 0,V.agg [V.d a,V.d b],vD c] [.map p])
def jox:=hs (some [0]) 108 1111010 ([vR 0]++tp 4++[vP 1]++tp 46++[vD a,vD b,vD c]) 14 [.map p,.box [vD d,vD e]]
def jtc:=MM K (.callv 109 [vD a,vD b] [])
def jrw:=hs (some []) 109 1111010 ([vT,vD a,vT,vT,vP 0,vT,vT,vP 1]++tp 22++[vD b,vD c,vD d]) 13 [.box [vD e,vR 2],.box [vD f,vR 3],.tre true 2 p,.tre true 2 q]
def jiy:=MM K (.callv 10 [vD a,vD b] [])
def jeo:=hd 110 111010 [vT,vT,vT,vD a,vT,vT,vT,vD b,vD c,vD d] 12 []
def jep:=hd 111 111010 [vT,vT,vT,vD a,vT,vT,vT,vD b,vD c,vD d] 10 []
def jeq:=hd 112 111010 [vD a,vT,vT,vP 0,vT,vD b] 22 [.box [vD c,vD d]]
def jbv:=hd 113 11010 ([vD a]++tp 4++[vD b,vD c]) 33 []
def QJ:=MM K (.callv 116 [vR 0,V.agg [V.d a,V.d b]] [.row 1 p])
def jbw:=hs (some [0]) 116 111010 ([vR 0]++tp 26++[vD a,vD b,vD c]) 8 [.row 1 p]
def jbx:=hs (some [1]) 116 111010 ([vR 0]++tp 26++[vD a,vD b,vD c]) 8 [.row 1 p,.gone]
def jhg:=MM K (.callv 117 [vR 0] [.row 1 p])
def jtd:=hd 118 111010 [vD a,vT,vT,vP 0,vT,vD b] 23 [.box [vD c,vD d]]
def jtW:=MM K (.callv 120 [vD a] [])
def jte:=hd 121 11010 [vT,vD a,vP 0,vT,vT,vD b] 16 [.box [vD c]]
def juG:=MM K (.callv 122 [V.agg [V.row 0],vD a,vD b] [.row 3 p])
def jo7:=hs (some [3]) 122 111100 [vT,vD a,vT,vP 0,vT,vP 1,vP 2,vD b] 43 [.box [vR 3],.box [vD c,vD d],.box [vR 4],.row 3 p,.row 3 q]
def jjI:=MM K (.callv 124 [vR 0,V.agg [V.d a,V.d b]] [.row 1 p])
def jrx:=hs (some [1]) 124 111010 ([vR 0]++tp 22++[vD a,vD b,vD c]) 8 [.row 1 p,.gone]
def jtg:=hs (some [0]) 124 111010 ([vR 0]++tp 22++[vD a,vD b,vD c]) 8 [.row 1 p]
def juH:=MM K (.callv 125 [vR 0,vD a] [.row 1 p])
def jry:=hs (some [1]) 125 111111100 (tp 7++[vR 0,vD a]) 39 [.row 1 p,.row 1 q]
def jer:=hd 126 11100 [vD a,vD b,vT,vT,vT,vD c] 39 []
def jkY:=MM K (.callv 13 [V.agg [V.row 0,V.row 1,V.d a],vD b] [.row 1 p,.row 1 q])
def jbr:=MM K (.callv 14 [V.agg [V.d a,V.row 0],vD b] [.tre true 2 p])
def jfx:=hd 16 1111010 [vD a,vD b,vT,vT,vT,vD c] 21 []
def Zg:=MM K (.callv 18 [vD a] [])
def ja2:=hs (some []) 18 111010 [vD a,vT,vT,vR 0,vD b] 18 [.tre false 2 p]
def jor:=MM K (.callv 19 [vD a,vD b] [])
def jiz:=hd 20 111010 [vD a,vD b,vT,vT,vT,vD c] 21 []
def jbs:=MM K (.callv 21 [vR 0,vD a] [.tre true 2 p])
def ja3:=hs (some [0]) 21 11010 [vR 0,vD a,vT,vT,vT,vD b] 22 [.tre true 2 p]
def jiA:=hd 24 111010 [vT,vP 0,vT,vD a] 57 [.box [vD b,vD c,vD d]]
def jiB:=hd 27 111010 [vT,vP 0,vP 1,vP 2,vD a] 22 [.box [vD b,vD c],.box [vD d,vR 3],.box [vD e,vR 4],.row 2 p,.row 2 q]
def juS:=MM K (.callv 27 [V.agg [V.d a,V.d b]] [])
def js0:=hs (some []) 27 111010 [vT,vP 0,vP 1,vP 2,vD a] 22 [.box [vD b,vD c],.box [vD d,vR 3],.box [vD e,vR 4],.row 2 p,.row 2 q]
def jdk:=MM K (.callv 33 [vD a] [])
def jiF:=hd 39 11010 [vD a,vD b,vT,vT,vT,vD c] 26 []
def juT:=hd 41 11010 [vD a,vT,vT,vD b] 15 []
def jt5:=hd 42 11110 [vT,vD a,vD b,vT,vT,vT,vP 0,vT,vT,vP 1,vD c] 26 [.box [vD d,vR 2],.box [vD e,vD f],.row 2 p]
def jtD:=MM K (.callv 46 [vD a,vD b,vD c] [])
def js1:=hs (some []) 46 11110 [vT,vD a,vD b,vT,vT,vT,vP 0,vT,vT,vP 1,vD c] 26 [.box [vD d,vR 3],.box [vD e,vR 2],.tre false 2 p,.row 2 q]
def jtZ:=hs (some []) 46 11110 [vT,vD a,vD b,vT,vT,vT,vP 0,vT,vT,vP 1,vD c] 26 [.box [vD d,vR 2],.box [vD e,vR 3],.row 2 p,.tre true 2 q]
def jws:=hs (some []) 46 11110 [vT,vD a,vD b,vT,vT,vT,vP 0,vT,vT,vP 1,vD c] 26 [.box [vD d,vR 2],.box [vD e,vR 3],.row 2 p,.gone]
def jiG:=hd 47 111100 [vD a,vT,vT,vD b] 16 []
def Kj:=hd 49 1111010 [vD a,vT,vT,vD b] 41 []
def jiH:=hd 50 11010 [vD a,vD b,vT,vT,vT,vD c] 12 []
def jiI:=hd 52 111010 [vT,vT,vP 0,vP 1,vT,vD a] 26 [.box [vD b,vD c,vD d],.box [vD e,vD f]]
def jiJ:=hd 53 111010 [vT,vT,vP 0,vP 1,vT,vD a,vD b] 21 [.box [vD c,vD d],.box [vD e,vD f]]
def jfz:=hd 54 1111010 [vT,vT,vP 0,vP 1,vT,vD a,vD b] 31 [.box [vD c,vD d,vD e],.box [vD f,vD g]]
def jdm:=hd 55 111010 [vD a,vT,vT,vD b] 25 []
def jfA:=hd 57 11010 [vT,vT,vP 0,vP 1,vT,vD a] 20 [.box [vD b,vD c],.box [vD d,vD e]]
def jfB:=hd 59 11010 ([vD a]++tp 4++[vD b,vD c]) 41 []
def jk3:=MM K (.callv 63 [vD a] [])
def ja8:=hs (some []) 63 1111010 ([vT,vT,vT,vR 0]++tp 8++[vD a,vD b,vD c]) 11 [.tre false 2 p]
def jfC:=hd 67 11010 ([vT,vT,vT,vP 0,vP 1,vP 2]++tp 9++[vD a,vD b,vD c]) 49 [.box [vD d,vD e,vD f],.box [vD g,vD h],.box [vD i,vD j]]
def jtF:=hd 70 111010 [vT,vD a,vD b,vP 0,vT,vT,vP 1,vT,vD c,vD d] 70 [.box [vD e,vD f],.box [vD g,vR 2],.row 2 p]
def jtG:=hd 70 11101001001110 [vT,vD a,vD b,vP 0,vT,vT,vP 1,vT,vD c,vD d,vP 2,vT,vD e] 67 [.box [vD f,vD g],.box [vD h,vR 3],.box [vD i,vD j],.row 2 p]
def jiK:=hd 72 1111010 [vT,vP 0,vT,vD a] 31 [.box [vD b,vD c]]
def jhD:=MM K (.callv 77 [vD a,vD b,vD c] [])
def jrz:=hs (some []) 77 11010 ([vT,vD a,vD b,vP 0,vT,vT,vP 1]++tp 10++[vD c,vD d,vD e]) 45 [.box [vD f,vD g],.box [vD h,vR 2],.row 2 p]
def jql:=hs (some []) 77 111010 ([vT,vT,vD a,vP 0,vT,vT,vP 1]++tp 33++[vD b,vD c,vD d]) 22 [.box [vD e,vD f],.box [vD g,vR 2],.row 2 p]
def jiL:=hd 80 11010 [vT,vD a,vP 0,vT,vT,vD b] 15 [.box [vD c,vD d,vD e]]
def jfD:=hd 82 1111010 [vT,vD a,vP 0,vT,vT,vD b,vD c] 21 [.box [vD d,vD e]]
def jiM:=hd 83 111010 [vT,vT,vP 0,vP 1,vT,vD a] 33 [.box [vD b,vD c],.box [vD d,vD e]]
def jiN:=hd 87 11010 ([vD a,vD b]++tp 5++[vD c,vD d]) 10 []
def jjQ:=MM K (.callv 8 [V.agg [V.d a,V.d b,V.d c]] [])
def jiO:=hd 91 111010 ([vT,vD a,vD b]++tp 12++[vD c,vD d,vD e]) 14 []
def jfE:=hd 93 1111010 ([vT,vD a,vT,vT,vT,vD b]++tp 7++[vD c,vD d,vD e]) 10 []
def jiP:=hd 94 1111010 ([vT,vT,vP 0,vT,vT,vD a]++tp 16++[vD b,vD c,vD d]) 10 [.box [vD e,vD f,vD g]]
def jiQ:=hd 96 111010 ([vT,vT,vT,vP 0,vP 1,vP 2]++tp 20++[vD a,vD b,vD c]) 21 [.box [vD d,vD e],.box [vD f,vR 3],.box [vD g,vR 4],.row 2 p,.row 2 q]
def jt6:=hd 97 11111010 [vT,vT,vP 0,vP 1,vT,vP 2,vD a] 43 [.box [vD b,vD c],.box [vD d,vD e],.box [vD f,vR 3,vD g],.row 1 p]
def juU:=hd 98 111010 [vT,vD a,vP 0,vT,vT,vR 1,vD b] 26 [.box [vD c,vD d],.row 1 p]
def juV:=hd 99 11010 [vT,vD a,vP 0,vT,vP 1,vT,vD b] 27 [.box [vD c,vD d],.box [vD e,vR 2],.row 2 p]
def jc0:=MM K (.callv 9 [V.agg [V.d a,V.d b]] [])
def jnb:=MM K (.callv 9 [vD a] [])
def e_0 (p:List (List A)) (a:A) (b:A) (c:A):Option Out:=kIx (kZ p) a λa=>kRN p a 1 2 λa=>kF 83 [a,A.agg [b,c]] λa=>some (A.top,[a,A.sl 259 p])
def e_1 (a:A) (b:A) (c:A) (p:List (List A)):Option Out:=brn (zL a) (brn (zL b) (brn (zL c) (brn (zL a) (brn (zL b) (brn (zL c) (brn (Ji ((kZ p)+(kZ [[a,b,c]])) 56) (some (A.top,[vb true,A.sl 259 (Kb p [[a,b,c]])])) none) none) none) none) none) none) none
def e_3:Option Out:=((pNo (vb false)).bind λ_=>some [[]]).bind λa=>some (A.top,vb false::(slL [259] a))
def e_2 (a:A) (b:A) (c:A) (p:List (List A)) (d:A) (e:A):Option Out:=kLb a b (KS 2 2 b a λf=>KS 2 2 c a λg=>(jm8 f g p).bind λf=>KR f 0 λg=>Jo 259 f 1 λf=>QI g (kbN g e_3 (jN a (vi 1) λa=>jrt a d b e c f)) (kbN g e_3 (jN a (vi 1) λa=>jvG a d b e c))) (some (A.top,[vb true,A.sl 259 p]))
def e_4 (a:A) (b:A) (c:A) (p:List (List A)) (d:A) (e:A):Option Out:=kLb a b (KS 2 2 b a λf=>KS 2 2 c a λg=>(jm8 f g p).bind λf=>KR f 0 λg=>Jo 259 f 1 λf=>QI g (kbN g e_3 (jN a (vi 1) λa=>jrv a d b e c f)) (kbN g e_3 (jN a (vi 1) λa=>jvH a d b e c))) (some (A.top,[vb true,A.sl 259 p]))
def e_5 (a:A) (b:A) (c:A) (p:List (List A)):Option Out:=jP a b (KS 2 2 c a λd=>jl 2 d λd=>(QJ (jc d 0) (jc d 1) p).bind λd=>Jo 1 d 0 λd=>jN a (vi 1) λa=>jbx c b a d) (some (A.top,[A.sl 1 p]))
def e_6 (a:A) (b:A) (c:A) (d:A) (e:A) (f:A) (p:List (List A)) (q:List (List A)):Option Out:=kX a b λg=>yS a (jD .lss false c g) λc=>QH a c (vb false) (jN d (vi 1) λa=>jo7 b a e f p q) (kB (jkz p) (jq9 p 0) (some d) λa=>brn (Ji (kZ (jsp p 0 (jsk a 0))) 56) ((G 27 [A.agg [e,f]]).bind λc=>jgd c λc=>(QS (zS (K.at 122) 112) [sv [],sv [],A.sl 2 []] [(0,b),(1,c)]).bind λb=>jl 3 b λb=>brn (Ji ((kZ (jsp p 0 (jsk a 0)))+(kZ [[jc b 0,jc b 1,jc b 2]])) 56) (kB (jkz p) (jq9 p 0) none λc=>kB 0 c (some d) λd=>brn (Ji ((kZ (Kb (jsp p 0 (jsk a 0)) [[jc b 0,jc b 1,jc b 2]]))+(kZ (jsp p (0+d) (jsk c d)))) 56) (some (A.top,[A.sl 3 (Kb (Kb (jsp p 0 (jsk a 0)) [[jc b 0,jc b 1,jc b 2]]) (jsp p (0+d) (jsk c d)))])) none) none) none)
def e_7 (a:A) (b:A) (c:A) (p:List (List A)):Option Out:=jP a b (KS 2 2 c a λd=>jl 2 d λd=>(jjI (jc d 0) (jc d 1) p).bind λd=>Jo 1 d 0 λd=>jN a (vi 1) λa=>jrx c b a d) (some (A.top,[A.sl 1 p]))
def e_8 (a:A) (b:A) (c:A) (d:A) (e:A) (p:List (List A)) (f:A):Option Out:=jY a (vb true) b λa=>j9 a c λb=>j9 a d λc=>yv a (jD .neq true b c) λb=>QH a (vb true) b (jo (vb false)) (kfn true (G 15 [A.agg [e,A.sl 2 p],vi 1]) λa=>jP a (vi 0) (jo (vb false)) (yw a f (jo (vb false)) (jo (vb true))))
def e_9 (a:List A) (p:List (List A)):Option Out:=brn (zL (jc a 0)) (some (A.top,[jc a 0,A.sl 66 p])) none
def jwu (a:A) (b:A) (p:List (List A)):Option Out:=brn (zL a) (some (A.top,[a,b,vb true,A.sl 66 p])) none
def jwt (a:A) (p:List (List A)) (b:A) (c:A) (d:A) (e:A) (q:List (List A)):Option Out:=(jhD (A.agg [a,A.sl 2 p]) b c).bind λf=>KR f 0 λg=>KR f 1 λh=>Jo 578 f 2 λf=>brn (kY g) (brn (kY h) (QI h (brn (zL g) (kbN h (jwu a d p) (yA d (vi 50) λa=>jI a false λ_=>yv a ((G 78 [A.agg [g,A.sl 2 f]]).bind (fin true)) λh=>yv a (pUn .not h) λh=>QH a (vb true) h (some (A.top,[sv [],vi 0,vb false,A.sl 66 []])) (brn (zL g) (jN d (vi 1) λa=>jtZ b c a e g q f) none))) none) (brn (zL g) (kbN h (jwu a d p) (yA d (vi 50) λa=>jI a false λ_=>jI a false λf=>brn f none (yv a (pUn .not (A.val undef)) λf=>QH a (vb true) f (some (A.top,[sv [],vi 0,vb false,A.sl 66 []])) (brn (zL g) (jN d (vi 1) λa=>jws b c a e g q) none)))) none)) none) none
def jwv (a:A) (b:A) (c:A):Option Out:=Yh a b λb=>kX b a λa=>kX b c λc=>yS b (jD .leq false a c) λa=>jY b a (vb false) λa=>jo a
def jww (a:Out):Option Out:=KR a 0 λb=>Jo 66 a 1 λa=>brn (kY b) (brn (zL b) (some (A.top,[b,vb true,A.sl 578 a])) none) none
theorem cev:type_of% (And.intro @jl.eq_1 (And.intro @jb0.eq_1 (And.intro @jY.eq_1 (And.intro @jI.eq_1 (And.intro @zy.eq_1 (And.intro @kLN.eq_1 (And.intro @kX.eq_1 (And.intro @j9.eq_1 (And.intro @yS.eq_1 (And.intro @yv.eq_1 (And.intro @yT.eq_1 (And.intro @Z8.eq_1 (And.intro @kF.eq_1 (And.intro @jgd.eq_1 (And.intro @kfn.eq_1 (And.intro @jj6.eq_1 (And.intro @KR.eq_1 (And.intro @Jo.eq_1 (And.intro @kIx.eq_1 (And.intro @kB.eq_1 (And.intro @kRN.eq_1 (And.intro @kRG.eq_1 (And.intro @kIS.eq_1 (And.intro @kSl.eq_1 (And.intro @kRP.eq_1 (And.intro @kMk.eq_1 (And.intro @kRs.eq_1 (And.intro @kLS.eq_1 (And.intro @jN.eq_1 (And.intro @yA.eq_1 (And.intro @Yh.eq_1 (And.intro @jf9.eq_1 (And.intro @jjd.eq_1 (And.intro @jav.eq_1 (And.intro @joA.eq_1 (And.intro @jga.eq_1 (And.intro @jlN.eq_1 (And.intro @joB.eq_1 (And.intro @jaw.eq_1 (And.intro @QI.eq_1 (And.intro @QH.eq_1 (And.intro @kbN.eq_1 (And.intro @kLb.eq_1 (And.intro @kF2.eq_1 (And.intro @kFN.eq_1 (And.intro @KS.eq_1 (And.intro @kIP.eq_1 (And.intro @jqV.eq_1 (And.intro @jnF.eq_1 (And.intro @jP.eq_1 (And.intro @jhE.eq_1 (And.intro @Yv.eq_1 (And.intro @jlO.eq_1 (And.intro @qR.eq_1 (And.intro @yw.eq_1 (And.intro @jo.eq_1 (And.intro @jqX.eq_1 (And.intro @kJ.eq_1 (And.intro @Jy.eq_1 (And.intro @e_0.eq_1 (And.intro @e_1.eq_1 (And.intro @e_3.eq_1 (And.intro @e_2.eq_1 (And.intro @e_4.eq_1 (And.intro @e_5.eq_1 (And.intro @e_6.eq_1 (And.intro @e_7.eq_1 (And.intro @e_8.eq_1 (And.intro @e_9.eq_1 (And.intro @jwu.eq_1 (And.intro @jwt.eq_1 (And.intro @jwv.eq_1 (@jww.eq_1))))))))))))))))))))))))))))))))))))))))))))))))))))))))))))))))))))))))):=And.intro @jl.eq_1 (And.intro @jb0.eq_1 (And.intro @jY.eq_1 (And.intro @jI.eq_1 (And.intro @zy.eq_1 (And.intro @kLN.eq_1 (And.intro @kX.eq_1 (And.intro @j9.eq_1 (And.intro @yS.eq_1 (And.intro @yv.eq_1 (And.intro @yT.eq_1 (And.intro @Z8.eq_1 (And.intro @kF.eq_1 (And.intro @jgd.eq_1 (And.intro @kfn.eq_1 (And.intro @jj6.eq_1 (And.intro @KR.eq_1 (And.intro @Jo.eq_1 (And.intro @kIx.eq_1 (And.intro @kB.eq_1 (And.intro @kRN.eq_1 (And.intro @kRG.eq_1 (And.intro @kIS.eq_1 (And.intro @kSl.eq_1 (And.intro @kRP.eq_1 (And.intro @kMk.eq_1 (And.intro @kRs.eq_1 (And.intro @kLS.eq_1 (And.intro @jN.eq_1 (And.intro @yA.eq_1 (And.intro @Yh.eq_1 (And.intro @jf9.eq_1 (And.intro @jjd.eq_1 (And.intro @jav.eq_1 (And.intro @joA.eq_1 (And.intro @jga.eq_1 (And.intro @jlN.eq_1 (And.intro @joB.eq_1 (And.intro @jaw.eq_1 (And.intro @QI.eq_1 (And.intro @QH.eq_1 (And.intro @kbN.eq_1 (And.intro @kLb.eq_1 (And.intro @kF2.eq_1 (And.intro @kFN.eq_1 (And.intro @KS.eq_1 (And.intro @kIP.eq_1 (And.intro @jqV.eq_1 (And.intro @jnF.eq_1 (And.intro @jP.eq_1 (And.intro @jhE.eq_1 (And.intro @Yv.eq_1 (And.intro @jlO.eq_1 (And.intro @qR.eq_1 (And.intro @yw.eq_1 (And.intro @jo.eq_1 (And.intro @jqX.eq_1 (And.intro @kJ.eq_1 (And.intro @Jy.eq_1 (And.intro @e_0.eq_1 (And.intro @e_1.eq_1 (And.intro @e_3.eq_1 (And.intro @e_2.eq_1 (And.intro @e_4.eq_1 (And.intro @e_5.eq_1 (And.intro @e_6.eq_1 (And.intro @e_7.eq_1 (And.intro @e_8.eq_1 (And.intro @e_9.eq_1 (And.intro @jwu.eq_1 (And.intro @jwt.eq_1 (And.intro @jwv.eq_1 (@jww.eq_1))))))))))))))))))))))))))))))))))))))))))))))))))))))))))))))))))))))))
theorem jpw (r0:List (List A)):jhg r0=jgW [V.row 0] [.row 1 r0]:=Eq.trans (jrJ (x:=jmH) rfl) rfl
theorem jw3:js2 a b c p=jl 2 a λa=>brn (zL b) (brn (zL c) (kF 55 [jc a 0] λd=>QI d (jm9 (vi 0) (jc a 0) (jc a 1) b c p) (jga (jc a 0) b λd=>jI d false λ_=>j9 d (jc a 1) λe=>yv d (qe e) λe=>jI d false λ_=>j9 d c λf=>yv d (qe f) λf=>yv d (jD .neq false e f) λe=>QH d (vb true) e (some (A.top,[vb false,A.sl 259 p])) (jrs (vi 0) (jc a 0) (jc a 1) b c p))) none) none:=vq Tryz.func100
theorem juf:jm9 a b c d e p=jP a (jcp p) (kIx (kZ p) a λf=>kRP p f 0 λf=>qR f b (e_0 p a d e) (jN a (vi 1) λa=>jm9 a b c d e p)) (e_1 b d e p):=hq Tryz.func100
theorem jvP:jrs a b c d e p=e_2 a c e p b d:=hq Tryz.func100
theorem jtk:jrt a b c d e p=e_2 a c e p b d:=hq Tryz.func100
theorem jw4:jm8 a b p=jl 2 a λa=>jl 2 b λb=>kF 55 [jc a 0] λc=>QI c (jna (vi 0) (jc a 0) (jc a 1) (jc b 0) (jc b 1) p) (jga (jc a 0) (jc b 0) λc=>jI c false λ_=>j9 c (jc a 1) λd=>yv c (qe d) λd=>jI c false λ_=>j9 c (jc b 1) λe=>yv c (qe e) λe=>yv c (jD .neq false d e) λd=>QH c (vb true) d (some (A.top,[vb false,A.sl 259 p])) (jru (vi 0) (jc a 0) (jc a 1) (jc b 0) (jc b 1) p)):=vq Tryz.func100
theorem jug:jna a b c d e p=jP a (jcp p) (kIx (kZ p) a λf=>kRP p f 0 λf=>qR f b (e_0 p a d e) (jN a (vi 1) λa=>jna a b c d e p)) (e_1 b d e p):=hq Tryz.func100
theorem jvQ:jru a b c d e p=e_4 a c e p b d:=hq Tryz.func100
theorem jtl:jrv a b c d e p=e_4 a c e p b d:=hq Tryz.func100
theorem jxC:G 101 [a,b,c]=jl 2 a λa=>jl 2 c λc=>zy b λd=>qR d (vi 0) ((juS (jc c 0) (jc c 1)).bind λa=>KR a 0 λb=>Jo 2 a 1 λa=>brn (zL b) (jo (A.agg [b,A.sl 2 a])) none) ((juS (jc a 0) (jc a 1)).bind λd=>KR d 0 λe=>Jo 2 d 1 λd=>brn (zL e) (kIP 1 b (vi 0) λf=>kIP 1 b (vi 0) λg=>KS 2 2 (jc a 1) g λa=>kSl 1 b (some (vi 1)) none λb=>kF 101 [a,b,kJ c] λa=>kIx (kZ d) f λb=>jl 2 a λa=>kRG d b λc=>brn (zL e) (jo (A.agg [e,A.sl 2 (zq d b (kE c 0 [jc a 0,jc a 1]))])) none) none):=gq Tryz.func101
theorem jyd:G 102 [a,b]=jl 1 a λa=>jl 2 b λb=>kF 55 [jc b 0] λc=>QI c (kF 121 [jqX a,jc b 0] λc=>jlO c (vi 0) (jqV 2 3 (jc a 0) c 1 λa=>(G 27 [a]).bind λa=>jgd a λa=>jl 2 a λa=>jo (kJ a)) (brn (zL (jc b 0)) (brn (zL (jc b 0)) (jo (A.agg [jc b 0,A.sl 2 []])) none) none)) (brn (zL (jc b 0)) (brn (zL (jc b 0)) (jtX (vi 0) (jc a 0) (jc b 0) (jc b 1) (sv []) (jc b 0) [] []) none) none):=gq Tryz.func102
theorem jvR:jtX a b c d e f p q=kLb a d (KS 2 2 d a λg=>(G 102 [A.agg [b],g]).bind λg=>jgd g λg=>jl 2 g λg=>brn (Ji ((kZ q)+(kZ [[jc g 0,jc g 1]])) 40) (jN a (vi 1) λa=>jtX a b c d e f p (Kb q [[jc g 0,jc g 1]])) none) (brn (zL f) (jo (A.agg [f,A.sl 2 q])) none):=hq Tryz.func102
theorem jye:G 103 [a]=jtY a (vi 0) [] []:=gq Tryz.func103
theorem jvS:jtY a b p q=kLb b a (jnF 3 a b 0 λc=>jqV 2 3 a b 1 λd=>(juG c d q).bind λc=>Jo 3 c 0 λc=>jN b (vi 1) λb=>jtY a b p c) (jo (A.agg [A.sl 3 q])):=hq Tryz.func103
theorem jr3:G 104 [a,b]=jl 2 a λa=>jel b (vi 1) (vi 0) (jc a 0) (jc a 1):=gq Tryz.func104
theorem jhI:jel a b c d e=zy e λf=>jav c f λf=>kX f b λg=>kX f a λh=>yS f (jD .leq false g h) λg=>QH f g (vb false) (KS 2 2 e c λf=>jaw a b λg=>kF 104 [f,g] λf=>jN b f λb=>jN c (vi 1) λc=>jel a b c d e) (jo b):=hq Tryz.func104
theorem jr4:G 105 [a]=jl 2 a λa=>jem (vi 0) (vi 0) (jc a 0) (jc a 1):=gq Tryz.func105
theorem jlT:jem a b c d=kLb b d (KS 2 2 d b λe=>kF 105 [e] λe=>kF 123 [a,e] λa=>jN b (vi 1) λb=>jem a b c d) (jN a (vi 1) λa=>jo a):=hq Tryz.func105
theorem jr5:G 106 [a,b]=zy a λc=>jen a b c (vi 0):=gq Tryz.func106
theorem jlU:jen a b c d=jP d c (KS 2 2 a d λe=>(DX.run K (MM K) (.callc b [e] false)).bind λe=>QI e (jo d) (jN d (vi 1) λd=>jen a b c d)) (jo (vi (- 1))):=hq Tryz.func106
theorem jyf:G 107 [a,b]=jl 2 a λa=>jl 2 b λb=>kF 65 [kJ a,kJ b] λc=>QI c (jo (vi 1)) ((jjI (jc a 0) (jc a 1) []).bind λc=>Jo 1 c 0 λc=>(jjI (jc b 0) (jc b 1) c).bind λc=>Jo 1 c 0 λc=>Yv (jcp c) (vi 12) (jo (vi 0)) ((jhg c).bind λc=>Jo 1 c 0 λc=>(juH (jcp c) [[vi 1]]).bind λd=>Jo 1 d 0 λd=>kfn true (G 34 [A.agg [A.sl 1 c,A.sl 1 d,vi 1],kJ a,kJ b]) λa=>jo a)):=gq Tryz.func107
theorem jw5:jq4 a b c p=jl 2 a λa=>brn (zL b) (brn (zL c) (zy (jc a 1) λd=>yA d (vi 0) λd=>jI d true λ_=>yT d 89 [kJ a] λe=>QH d e (vb false) ((jju none true false [sv [],A.sl 2 []] (A.mp p) (jc a 0)).bind λd=>jb0 d 0 λe=>jb0 d 1 λd=>jl 2 e λe=>(jpW none p (jc a 0) (A.agg [b,c])).bind λa=>jj6 d λd=>jI d false λ_=>jI d false λ_=>Z8 d 65 [kJ e,A.agg [b,c]] λb=>jY d (vb true) b λb=>some (A.top,[b,A.sl 128 a])) (jga (jc a 0) b λd=>jI d false λ_=>j9 d (jc a 1) λe=>yv d (qe e) λe=>jI d false λ_=>j9 d c λf=>yv d (qe f) λf=>yv d (jD .neq false e f) λe=>QH d (vb true) e (some (A.top,[vb false,A.sl 128 p])) (zy (jc a 1) λd=>jnG (jc a 1) d (vi 0) b c p))) none) none:=vq Tryz.func108
theorem juh:jnG a b c d e p=jP c b (KS 2 2 a c λf=>jl 2 f λf=>KS 2 2 e c λg=>(jeb (jc f 0) (jc f 1) g p).bind λf=>KR f 0 λg=>Jo 128 f 1 λf=>kbN g (some (A.top,[vb false,A.sl 128 f])) (jN c (vi 1) λc=>jnG a b c d e f)) (some (A.top,[vb true,A.sl 128 p])):=hq Tryz.func108
theorem jw6:jeb a b c p=brn (zL a) (brn (zL b) (jl 2 c λc=>zy b λd=>yA d (vi 0) λd=>jI d true λ_=>yT d 89 [A.agg [a,b]] λe=>QH d e (vb false) ((jju none true false [sv [],A.sl 2 []] (A.mp p) a).bind λb=>jb0 b 0 λd=>jb0 b 1 λb=>jl 2 d λd=>(jpW none p a (kJ c)).bind λa=>jj6 b λb=>jI b false λ_=>jI b false λ_=>Z8 b 65 [kJ d,kJ c] λc=>jY b (vb true) c λb=>some (A.top,[b,A.sl 128 a])) (jga a (jc c 0) λa=>jI a false λ_=>j9 a b λd=>yv a (qe d) λd=>jI a false λ_=>j9 a (jc c 1) λe=>yv a (qe e) λe=>yv a (jD .neq false d e) λd=>QH a (vb true) d (some (A.top,[vb false,A.sl 128 p])) (zy b λa=>jox b a (vi 0) (jc c 0) (jc c 1) p))) none) none:=vq Tryz.func108
theorem jui:jox a b c d e p=jP c b (KS 2 2 a c λf=>jl 2 f λf=>KS 2 2 e c λg=>(jeb (jc f 0) (jc f 1) g p).bind λf=>KR f 0 λg=>Jo 128 f 1 λf=>kbN g (some (A.top,[vb false,A.sl 128 f])) (jN c (vi 1) λc=>jox a b c d e f)) (some (A.top,[vb true,A.sl 128 p])):=hq Tryz.func108
theorem jw7:jtc a b=jl 2 a λa=>(jju none true false [sv [],A.sl 2 []] b (jc a 0)).bind λc=>jb0 c 0 λd=>jb0 c 1 λc=>jl 2 d λd=>jI c true λ_=>kX c (jc a 1) λe=>yS c (qe e) λe=>yS c (jD .eql false e (vi 0)) λe=>QH c e (vb false) ((jdk (kJ d)).bind λa=>KR a 0 λb=>Jo 66 a 1 λa=>brn (kY b) (brn (zL b) (some (A.top,[b,A.sl 66 a])) none) none) (brn (zL (jc a 0)) (brn (zL (jc a 0)) (zy (jc a 1) λc=>jrw b (jc a 1) c (vi 0) (sv []) (jc a 0) [] []) none) none):=vq Tryz.func109
theorem jtm:jrw a b c d e f p q=jP d c (KS 2 2 b d λg=>jl 2 g λg=>(jtc (kJ g) a).bind λg=>KR g 0 λh=>Jo 66 g 1 λg=>brn (kY h) (brn (zL h) (brn (kU h) (brn (Ji ((kZ q)+(kZ [[h,A.sl 2 g]])) 40) (jN d (vi 1) λd=>jrw a b c d e f p (Kb q [[h,A.sl 2 g]])) none) none) none) none) (brn (zL f) (some (A.top,[f,A.sl 66 q])) none):=hq Tryz.func109
theorem g11:G 11 [a,b]=jl 2 a λa=>jl 2 b λb=>yw (jc a 0) (jc b 0) (jo (vb false)) (kF 20 [jc a 1,jc b 1] λa=>kbN a (jo (vb false)) (jo (vb true))):=gq Tryz.func11
theorem jr6:G 110 [a]=jl 2 a λa=>zy (jc a 1) λb=>jeo (vi 1) (jc a 1) b (vi 0):=gq Tryz.func110
theorem jhJ:jeo a b c d=jP d c (KS 2 2 b d λe=>jl 2 e λe=>Yv a (vi 30) (jo a) (kF 110 [kJ e] λe=>jN a e λa=>jN d (vi 1) λd=>jeo a b c d)) (jo a):=hq Tryz.func110
theorem jr7:G 111 [a]=jl 2 a λa=>zy (jc a 1) λb=>jep (vi 0) (jc a 1) b (vi 0):=gq Tryz.func111
theorem jlV:jep a b c d=jP d c (KS 2 2 b d λe=>jl 2 e λe=>kF 111 [kJ e] λe=>(jh3 a e).bind λa=>jN d (vi 1) λd=>jep a b c d) (jN a (vi 1) λa=>jo a):=hq Tryz.func111
theorem jr8:G 112 [a,b]=jl 2 b λb=>kF 55 [jc b 0] λc=>QI c (kF 126 [a,jc b 0] λa=>jo a) (jeq a (vi 0) (jc b 0) (jc b 1)):=gq Tryz.func112
theorem jlW:jeq a b c d=kLb b d (KS 2 2 d b λe=>kF 112 [a,e] λa=>jN b (vi 1) λb=>jeq a b c d) (jo a):=hq Tryz.func112
theorem jr9:G 113 [a]=kLS a λb=>jbv a b (vi 0):=gq Tryz.func113
theorem jeL:jbv a b c=jP c b (yA c (vi 0) λd=>kX d a λe=>kX d c λf=>yS d (jaH e f) λe=>yT d 115 [e] λe=>yS d (pUn .not e) λe=>jY d e (vb false) λd=>j9 d c λe=>yv d (jD .gtr false e (vi 0)) λe=>j9 d e λe=>kX e a λf=>kX e c λg=>yS e (jaH f g) λf=>yT e 84 [f] λf=>yS e (pUn .not f) λf=>yv d (Zb e f (vb false)) λe=>j9 d e λe=>kX e a λf=>kX e c λg=>yS e (jaH f g) λf=>yT e 85 [f] λf=>yS e (pUn .not f) λf=>yv d (Zb e f (vb false)) λe=>QH d (vb true) e (jo (vb false)) (jN c (vi 1) λc=>jbv a b c)) (kLS a λa=>kF 58 [a,vi 1,vi 4] λa=>jo a):=hq Tryz.func113
theorem jsa:G 114 [a]=jl 2 a λa=>kFN 88 [kJ a] λa=>jo a:=gq Tryz.func114
theorem jsb:G 115 [a]=Yh a (vy 65) λb=>kX b a λa=>yS b (jD .leq false a (vy 90)) λa=>jY b a (vb false) λa=>jo a:=gq Tryz.func115
theorem jpv:QJ a b p=brn (zL a) (brn (zL b) (zy b λc=>yA c (vi 0) λc=>jI c true λ_=>yT c 89 [A.agg [a,b]] λd=>QH c d (vb false) (kfn true (G 60 [A.sl 1 p,a]) λb=>kbN b (brn (zL a) (brn (Ji ((kZ p)+(kZ [[a]])) 16) (some (A.top,[A.sl 1 (Kb p [[a]])])) none) none) (some (A.top,[A.sl 1 p]))) (zy b λa=>jbw b a (vi 0) p)) none) none:=vq Tryz.func116
theorem jlX:jbw a b c p=e_5 c b a p:=hq Tryz.func116
theorem jgh:jbx a b c p=e_5 c b a p:=hq Tryz.func116
theorem jyg:G 118 [a,b]=jl 2 b λb=>kF 55 [jc b 0] λc=>kbN c (kF 126 [a,jc b 0] λa=>jtd a (vi 0) (jc b 0) (jc b 1)) (jtd a (vi 0) (jc b 0) (jc b 1)):=gq Tryz.func118
theorem jvT:jtd a b c d=kLb b d (KS 2 2 d b λe=>kF 118 [a,e] λa=>jN b (vi 1) λb=>jtd a b c d) (jo a):=hq Tryz.func118
theorem jyh:G 119 [a,b,c]=jl 3 a λa=>jl 2 b λb=>jl 2 c λc=>kFN 24 [Jy a] λd=>jI d false λ_=>jI d false λ_=>Z8 d 129 [Jy a,kJ b] λe=>yv d (pUn .not e) λe=>jY d (vb true) e λd=>jI d false λ_=>jI d false λ_=>Z8 d 129 [Jy a,kJ c] λe=>yv d (pUn .not e) λe=>QH d (vb true) e (jo (A.tup [vi 0,vb false])) (kF 83 [kJ b,kJ c] λd=>kF 26 [Jy a,kJ b,kJ c] λe=>kF 26 [Jy a,kJ c,kJ b] λa=>kF 130 [d,e,a] λa=>jo (A.tup [a,vb true])):=gq Tryz.func119
theorem jw8:jtW a=kRs 1 a λa=>brn (Ji (kZ a) 8) (some (A.top,[A.sl 1 a])) none:=vq Tryz.func120
theorem jyi:G 121 [a,b]=jl 1 a λa=>jte b (vi 0) (jc a 0):=gq Tryz.func121
theorem jvU:jte a b c=kLb b c (jnF 3 c b 0 λd=>qR d a (jo b) (jN b (vi 1) λb=>jte a b c)) (jo (vi (- 1))):=hq Tryz.func121
theorem jw9:juG a b p=jl 2 b λb=>qR (jc b 0) a (some (A.top,[A.sl 3 p])) (jo7 a (vi 0) (jc b 0) (jc b 1) p []):=vq Tryz.func122
theorem jtn:jo7 a b c d p q=jav b (jcp p) λe=>jI e true λ_=>jI e true λ_=>kX e b λf=>jI e true λg=>brn g (kIx (kZ p) f λf=>jI e true λ_=>yS e (jmr p f 0) λf=>e_6 e a f b c d p q) (yS e (jeX (A.val undef) 0) λf=>yS e (yW f) λf=>e_6 e a f b c d p q):=hq Tryz.func122
theorem jsc:G 123 [a,b]=Yv a b (jo a) (jo b):=gq Tryz.func123
theorem jxa:jjI a b p=brn (zL a) (brn (zL b) (kF 59 [a] λc=>jI c true λ_=>jI c true λ_=>kX c a λd=>yS c ((G 60 [A.sl 1 p,d]).bind (fin true)) λd=>yS c (pUn .not d) λd=>QH c d (vb false) (brn (zL a) (brn (Ji ((kZ p)+(kZ [[a]])) 16) (zy b λc=>jrx b c (vi 0) (Kb p [[a]])) none) none) (zy b λa=>jtg b a (vi 0) p)) none) none:=vq Tryz.func124
theorem juj:jrx a b c p=e_7 c b a p:=hq Tryz.func124
theorem jvV:jtg a b c p=e_7 c b a p:=hq Tryz.func124
theorem jxb:juH a p=jP a (vi 0) none ((jgB .u64 (jcp p)).bind λb=>(jgB .u64 a).bind λa=>kF2 131 [b,a] λa b=>jf9 a (A.val (.int .u64 0)) λa=>j9 a b λc=>yv a (jD .gtr false c (A.val (.int .u64 9223372036854775807))) λc=>QH a (vb true) c none ((jgB .i64 b).bind λa=>kMk 8 a a λa=>jry (jso p (jkz (Q1 a [vi 0]))) (Zc (Q1 a [vi 0]) 0 (jra p (jkz (Q1 a [vi 0])))) p)):=vq Tryz.func125
theorem jrB:jry a p q=jP a (jcp p) (kB (jkz p) (jq9 p 0) none λb=>kB 0 b (some a) λc=>kB (jkz p) (jq9 p 0) (some a) λd=>jN a (jso (jsp p 0 (jsk d 0)) (jsk b c)) λa=>jry a (Zc p (0+c) (jra (jsp p 0 (jsk d 0)) (jsk b c))) q) (some (A.top,[A.sl 1 p])):=hq Tryz.func125
theorem jsd:G 126 [a,b]=jer a b (vi 0):=gq Tryz.func126
theorem jlY:jer a b c=zy a λd=>jav c d λd=>kX d a λe=>kX d c λf=>yS d (jw 1 e f) λe=>yS d (yW e) λe=>kX d b λf=>yS d (jD .lss false e f) λe=>QH d e (vb false) (jN c (vi 1) λc=>jer a b c) (zy a λd=>jav c d λd=>kX d a λe=>kX d c λf=>yS d (jw 1 e f) λe=>yS d (yW e) λe=>kX d b λf=>yS d (jD .eql false e f) λe=>QH d e (vb false) (jo a) (kSl 1 a none (some c) λd=>kRs 1 d λd=>brn (Ji (kZ d) 16) (brn (zL b) (brn (Ji ((kZ d)+(kZ [[b]])) 16) (kSl 1 a (some c) none λa=>kRs 1 a λa=>brn (Ji ((kZ (Kb d [[b]]))+(kZ a)) 16) (jo (A.sl 1 (Kb (Kb d [[b]]) a))) none) none) none) none)):=hq Tryz.func126
theorem jyj:G 129 [a,b]=jl 3 a λa=>jl 2 b λb=>kF 43 [kJ b] λc=>jI c true λ_=>jI c true λ_=>yT c 52 [Jy a,kJ b] λa=>jY c a (vb false) λa=>jo a:=gq Tryz.func129
theorem jyk:G 130 [a,b,c]=QI a (jo (vi 1)) (QI b (jo (vi 2)) (QI c (jo (vi 3)) (jo (vi 0)))):=gq Tryz.func130
theorem jyl:G 131 [a,b]=QI (vb false) ((jgB .u32 a).bind λa=>(jgB .u32 b).bind λb=>kF2 143 [a,b] λa b=>(jgB .u64 a).bind λa=>(jgB .u64 b).bind λb=>jo (A.tup [a,b])) (kF2 144 [a,b] λa b=>jo (A.tup [a,b])):=gq Tryz.func131
theorem jym:G 144 [a,b]=(jD .and false a (A.val (.int .u64 4294967295))).bind λc=>joB a (A.val (.int .u64 32)) λd=>(jD .and false b (A.val (.int .u64 4294967295))).bind λe=>joB b (A.val (.int .u64 32)) λf=>joA c e λg=>joA d e λe=>joB g (A.val (.int .u64 32)) λg=>jN e g λe=>(jD .and false e (A.val (.int .u64 4294967295))).bind λg=>joB e (A.val (.int .u64 32)) λe=>joA c f λc=>jN g c λc=>joA d f λd=>jN d e λd=>joB c (A.val (.int .u64 32)) λc=>jN d c λc=>joA a b λa=>jo (A.tup [c,a]):=gq Tryz.func144
theorem jqD:jbr a b p=brn (zL a) ((jbs b p).bind λa=>KR a 0 λb=>Jo 66 a 1 λa=>some (A.top,[b,A.sl 66 a])) none:=vq Tryz.func14
theorem g15:G 15 [a,b]=jl 2 a λa=>kF 39 [jc a 1,b] λa=>jP a (vi 0) (jo (vi (- 1))) (jo a):=gq Tryz.func15
theorem g16:G 16 [a,b]=zy a λc=>jaw b c λb=>jP b (vi 0) (jo (vi (- 1))) (jfx a b (vi 0)):=gq Tryz.func16
theorem joE:jfx a b c=kLb c a (KS 2 2 a c λd=>kF 6 [d,b] λb=>jP b (vi 0) (jo (vi (- 1))) (jN c (vi 1) λc=>jfx a b c)) (jo b):=hq Tryz.func16
theorem g17:G 17 [a,b]=jl 2 a λa=>kFN 40 [kJ a] λc=>j9 c b λd=>Z8 c 41 [d] λd=>yv c (pUn .not d) λd=>QH c (vb true) d (jo (A.tup [A.agg [sv [],A.sl 2 []],vi 0,vb false])) (kF 43 [kJ a] λc=>kF 42 [kJ a,b,c] λa=>jb0 a 0 λb=>jb0 a 1 λc=>jb0 a 2 λa=>jl 2 b λb=>jo (A.tup [kJ b,c,a])):=gq Tryz.func17
theorem jqE:Zg a=zy a λb=>kMk 40 b b λb=>ja2 a (vi 0) (Q1 b [sv [],A.sl 2 []]):=vq Tryz.func18
theorem jjg:ja2 a b p=kLb b a (KS 2 2 a b λc=>(jnb c).bind λc=>KR c 0 λd=>Jo 66 c 1 λc=>kIx (kZ p) b λe=>brn (zL d) (brn (kU d) (kRG p e λf=>jN b (vi 1) λb=>ja2 a b (zq p e (kE f 0 [d,A.sl 2 c]))) none) none) (some (A.top,[A.sl 66 p])):=hq Tryz.func18
theorem jxw:jor a b=jl 2 a λa=>kFN 44 [kJ a] λc=>j9 c b λd=>Z8 c 45 [d] λd=>yv c (pUn .not d) λd=>QH c (vb true) d (some (A.top,[sv [],vi 0,vb false,A.sl 66 []])) ((jtD (kJ a) b (vb true)).bind λa=>KR a 0 λb=>KR a 1 λc=>KR a 2 λd=>Jo 66 a 3 λa=>brn (kY b) (brn (kY c) (brn (kY d) (brn (zL b) (some (A.top,[b,c,d,A.sl 66 a])) none) none) none) none):=vq Tryz.func19
theorem g20:G 20 [a,b]=zy a λc=>zy b λd=>yw c d (jo (vb false)) (jiz a b (vi 0)):=gq Tryz.func20
theorem joF:jiz a b c=kLb c a (KS 2 2 a c λd=>KS 2 2 b c λe=>kF 11 [d,e] λd=>kbN d (jo (vb false)) (jN c (vi 1) λc=>jiz a b c)) (jo (vb true)):=hq Tryz.func20
theorem jqF:jbs a p=ja3 a (vi 0) p:=vq Tryz.func21
theorem jjh:ja3 a b p=jP b (jcp p) (kF 47 [a] λc=>kIx (kZ p) b λd=>brn (zL c) (brn (kU c) (kRG p d λe=>brn (jmM e 0 1) (jN a (vi 1) λa=>kIx (kZ (zq p d (kE e 0 [c]))) b λf=>kRG (zq p d (kE e 0 [c])) f λg=>brn (jf8 (jc g 1)) (kRG (zq p d (kE e 0 [c])) f λg=>kRs 2 (jc g 1) λh=>(jbs a h).bind λa=>KR a 0 λh=>Jo 66 a 1 λa=>jN b (vi 1) λb=>ja3 h b (zq (zq p d (kE e 0 [c])) f (kE g 1 [A.sl 2 a]))) none) none) none) none) (some (A.top,[a,A.sl 66 p])):=hq Tryz.func21
theorem g24:G 24 [a]=jl 3 a λa=>zy (jc a 0) λb=>kFN 48 [b,vi 1,vi 12] λb=>jI b false λ_=>j9 b (jc a 1) λc=>yv b (qe c) λc=>jI b false λ_=>j9 b (jc a 0) λd=>yv b (qe d) λd=>yv b (jD .neq false c d) λc=>jY b (vb true) c λb=>jI b false λ_=>j9 b (jc a 2) λc=>Z8 b 48 [c,vi 1,vi 100] λc=>yv b (pUn .not c) λc=>QH b (vb true) c (jo (vb false)) (jiA (vi 0) (jc a 0) (jc a 1) (jc a 2)):=gq Tryz.func24
theorem joH:jiA a b c d=kLb a b (kIP 1 b a λe=>kFN 49 [e] λe=>jI e false λ_=>j9 e b λf=>j9 e a λg=>yv e (zU 1 f none (some g)) λf=>jI e false λ_=>j9 e b λg=>j9 e a λh=>yv e (jw 1 g h) λg=>yv e (yW g) λg=>Z8 e 50 [f,g] λf=>jY e (vb true) f λe=>jI e false λ_=>j9 e c λf=>j9 e a λg=>yv e (jw 1 f g) λf=>yv e (yW f) λf=>jI e false λ_=>j9 e d λg=>Z8 e 48 [f,g,vi 100] λf=>yv e (pUn .not f) λf=>QH e (vb true) f (jo (vb false)) (jN a (vi 1) λa=>jiA a b c d)) (jo (vb true)):=hq Tryz.func24
theorem g26:G 26 [a,b,c]=jl 3 a λa=>jl 2 b λb=>jl 2 c λc=>kF 53 [kJ b,kJ c] λd=>kbN d (jo (vb false)) (kF 54 [Jy a,kJ b] λd=>kF 54 [Jy a,kJ c] λe=>yw d e (jf9 d e λa=>jo a) (kF 55 [jc b 0] λd=>jI d false λ_=>j9 d (jc c 0) λe=>Z8 d 55 [e] λe=>QH d (vb true) e (jo (vb false)) (kF 56 [Jy a,kJ b,kJ c] λd=>yw d (vi 0) (jf9 d (vi 0) λa=>jo a) (kF 57 [kJ b,kJ c] λd=>Yh d (vi 0) λe=>jI e true λ_=>jI e true λ_=>kX e (jc b 1) λb=>kX e d λf=>yS e (jw 2 b f) λb=>yS e (zz 2 b) λb=>jI e true λ_=>kX e (jc c 1) λc=>kX e d λd=>yS e (jw 2 c d) λc=>yS e (zz 2 c) λc=>yT e 26 [Jy a,b,c] λa=>jY e a (vb false) λa=>jo a)))):=gq Tryz.func26
theorem g27:G 27 [a]=jl 2 a λa=>brn (zL (jc a 0)) (brn (zL (jc a 0)) (jiB (vi 0) (jc a 0) (jc a 1) (sv []) (jc a 0) [] []) none) none:=gq Tryz.func27
theorem joI:jiB a b c d e p q=kLb a c (KS 2 2 c a λf=>(G 27 [f]).bind λf=>jgd f λf=>jl 2 f λf=>brn (Ji ((kZ q)+(kZ [[jc f 0,jc f 1]])) 40) (jN a (vi 1) λa=>jiB a b c d e p (Kb q [[jc f 0,jc f 1]])) none) (brn (zL e) (jo (A.agg [e,A.sl 2 q])) none):=hq Tryz.func27
theorem jxx:juS a b=brn (zL a) (brn (zL b) (brn (zL a) (brn (zL a) (js0 (vi 0) a b (sv []) a [] []) none) none) none) none:=vq Tryz.func27
theorem ju0:js0 a b c d e p q=kLb a c (KS 2 2 c a λf=>(G 27 [f]).bind λf=>jgd f λf=>jl 2 f λf=>brn (Ji ((kZ q)+(kZ [[jc f 0,jc f 1]])) 40) (jN a (vi 1) λa=>js0 a b c d e p (Kb q [[jc f 0,jc f 1]])) none) (brn (zL e) (some (A.top,[e,A.sl 2 q])) none):=hq Tryz.func27
theorem g3:G 3 [a,b]=jl 3 a λa=>jl 2 b λb=>kF 5 [Jy a,vi 1048576] λc=>jP c (vi 0) (jo (vb true)) (kF 6 [kJ b,c] λc=>jP c (vi 0) (jo (vb true)) ((jjQ (jc a 0) (jc a 1) (jc a 2)).bind λc=>KR c 0 λd=>Jo 1 c 1 λe=>Jo 1 c 2 λc=>(jc0 (jc b 0) (jc b 1)).bind λf=>KR f 0 λg=>Jo 66 f 1 λf=>(G 7 [A.agg [A.sl 1 e,A.sl 1 c,d],A.agg [g,A.sl 2 f]]).bind λc=>jgd c λc=>jb0 c 0 λd=>jb0 c 1 λe=>jb0 c 2 λc=>jl 2 d λd=>(jjQ (jc a 0) (jc a 1) (jc a 2)).bind λf=>KR f 0 λg=>Jo 1 f 1 λh=>Jo 1 f 2 λf=>brn (zL g) ((jc0 (jc b 0) (jc b 1)).bind λi=>KR i 0 λj=>Jo 66 i 1 λi=>brn (zL j) ((jiy (A.agg [A.sl 1 h,A.sl 1 f,g]) (A.agg [j,A.sl 2 i])).bind λk=>KR k 0 λl=>KR k 1 λm=>KR k 2 λn=>Jo 66 k 3 λk=>brn (kY l) (brn (kY m) (brn (kY n) (brn (zL l) (kfn true (G 11 [A.agg [l,A.sl 2 k],kJ d]) λo=>jj6 o λo=>j9 o m λp=>j9 o e λq=>yv o (jD .neq true p q) λp=>jY o (vb true) p λo=>j9 o n λp=>j9 o c λq=>yv o (jD .neq true p q) λp=>QH o (vb true) p (jo (vb false)) ((jjQ (jc a 0) (jc a 1) (jc a 2)).bind λo=>KR o 0 λp=>Jo 1 o 1 λq=>Jo 1 o 2 λo=>kfn true (G 12 [A.agg [A.sl 1 h,A.sl 1 f,g],A.agg [A.sl 1 q,A.sl 1 o,p]]) λo=>kbN o (jo (vb false)) ((jc0 (jc b 0) (jc b 1)).bind λo=>KR o 0 λp=>Jo 66 o 1 λo=>kfn true (G 11 [A.agg [j,A.sl 2 i],A.agg [p,A.sl 2 o]]) λo=>kbN o (jo (vb false)) ((jkY g (vi 1) h f).bind λf=>KR f 0 λg=>Jo 1 f 1 λ_=>Jo 1 f 2 λ_=>(jbr j g i).bind λf=>KR f 0 λg=>Jo 66 f 1 λ_=>jav g (vi 0) λf=>jI f false λ_=>jI f false λ_=>yv f ((G 11 [A.agg [l,A.sl 2 k],kJ d]).bind (fin true)) λg=>yv f (pUn .not g) λg=>jY f (vb true) g λf=>j9 f m λg=>j9 f e λh=>yv f (jD .neq true g h) λg=>jY f (vb true) g λf=>j9 f n λg=>j9 f c λh=>yv f (jD .neq true g h) λg=>QH f (vb true) g (jo (vb false)) ((jbr l (vi 1) k).bind λf=>KR f 0 λg=>Jo 66 f 1 λf=>kfn true (G 15 [A.agg [l,A.sl 2 f],vi 1]) λh=>jP h (vi 0) (jo (vb false)) (yw h g (jo (vb false)) ((jjQ (jc a 0) (jc a 1) (jc a 2)).bind λa=>KR a 0 λh=>Jo 1 a 1 λi=>Jo 1 a 2 λa=>(jc0 (jc b 0) (jc b 1)).bind λb=>KR b 0 λj=>Jo 66 b 1 λb=>(jiy (A.agg [A.sl 1 i,A.sl 1 a,h]) (A.agg [j,A.sl 2 b])).bind λa=>KR a 0 λb=>KR a 1 λh=>KR a 2 λi=>Jo 66 a 3 λa=>brn (kY b) (brn (kY h) (brn (kY i) (brn (zL b) (kfn true (G 11 [A.agg [b,A.sl 2 a],kJ d]) λa=>jj6 a λa=>j9 a h λb=>j9 a e λd=>yv a (jD .neq true b d) λb=>e_8 a b i c l f g) none) none) none) none))))))) none) none) none) none) none) none)):=gq Tryz.func3
theorem g30:G 30 [a]=jl 2 a λa=>yA (jc a 0) (sv [61]) λa=>jo a:=gq Tryz.func30
theorem jqI:jdk a=jl 2 a λa=>(jk3 (jc a 1)).bind λb=>Jo 66 b 0 λb=>brn (zL (jc a 0)) (e_9 a b) none:=vq Tryz.func33
theorem g34:G 34 [a,b,c]=jl 3 a λa=>jl 2 b λb=>jl 2 c λc=>kF 65 [kJ b,kJ c] λd=>kfn true (G 64 [d,A.fn 66 [A.elt [jc a 0,jc a 1,jc a 2] 0,A.elt [jc b 0,jc b 1] 0,A.elt [jc c 0,jc c 1] 0],A.fn 68 [A.elt [jc a 0,jc a 1,jc a 2] 0,A.elt [jc c 0,jc c 1] 0,A.elt [jc b 0,jc b 1] 0]]) λa=>jo a:=gq Tryz.func34
theorem g39:G 39 [a,b]=jiF a b (vi 0):=gq Tryz.func39
theorem joM:jiF a b c=kLb c a (jnF 2 a c 0 λd=>kF 47 [b] λe=>yw d e (jo (vi (- 1))) (jN b (vi 1) λb=>jnF 2 a c 1 λd=>kF 39 [d,b] λb=>jP b (vi 0) (jo (vi (- 1))) (jN c (vi 1) λc=>jiF a b c))) (jo b):=hq Tryz.func39
theorem g4:G 4 [a,b]=jl 2 a λa=>kF 6 [kJ a,vi 1048576] λc=>jP c (vi 0) (jo (vb true)) (kF 16 [b,c] λc=>jP c (vi 0) (jo (vb true)) ((jc0 (jc a 0) (jc a 1)).bind λc=>KR c 0 λd=>Jo 66 c 1 λc=>(Zg b).bind λe=>Jo 66 e 0 λe=>(G 17 [A.agg [d,A.sl 2 c],A.sl 2 e]).bind λc=>jgd c λc=>jb0 c 0 λd=>jb0 c 1 λe=>jb0 c 2 λc=>jl 2 d λd=>(jc0 (jc a 0) (jc a 1)).bind λf=>KR f 0 λg=>Jo 66 f 1 λf=>brn (zL g) ((Zg b).bind λh=>Jo 66 h 0 λh=>(jor (A.agg [g,A.sl 2 f]) (A.sl 2 h)).bind λi=>KR i 0 λj=>KR i 1 λk=>KR i 2 λl=>Jo 66 i 3 λi=>brn (kY j) (brn (kY k) (brn (kY l) (brn (zL j) (kfn true (G 11 [A.agg [j,A.sl 2 i],kJ d]) λm=>jj6 m λm=>j9 m k λn=>j9 m e λo=>yv m (jD .neq false n o) λn=>jY m (vb true) n λm=>j9 m l λn=>j9 m c λo=>yv m (jD .neq true n o) λn=>QH m (vb true) n (jo (vb false)) ((jc0 (jc a 0) (jc a 1)).bind λm=>KR m 0 λn=>Jo 66 m 1 λm=>kfn true (G 11 [A.agg [g,A.sl 2 f],A.agg [n,A.sl 2 m]]) λm=>kbN m (jo (vb false)) ((Zg b).bind λm=>Jo 66 m 0 λm=>kfn true (G 20 [A.sl 2 h,A.sl 2 m]) λm=>kbN m (jo (vb false)) ((jbr g (vi 1) f).bind λf=>KR f 0 λg=>Jo 66 f 1 λ_=>(jbs g h).bind λf=>KR f 0 λg=>Jo 66 f 1 λ_=>jav g (vi 0) λf=>jI f false λ_=>jI f false λ_=>yv f ((G 11 [A.agg [j,A.sl 2 i],kJ d]).bind (fin true)) λg=>yv f (pUn .not g) λg=>jY f (vb true) g λf=>j9 f k λg=>j9 f e λh=>yv f (jD .neq false g h) λg=>jY f (vb true) g λf=>j9 f l λg=>j9 f c λh=>yv f (jD .neq true g h) λg=>QH f (vb true) g (jo (vb false)) ((jbr j (vi 1) i).bind λf=>KR f 0 λg=>Jo 66 f 1 λf=>kfn true (G 15 [A.agg [j,A.sl 2 f],vi 1]) λh=>jP h (vi 0) (jo (vb false)) (yw h g (jo (vb false)) ((jc0 (jc a 0) (jc a 1)).bind λa=>KR a 0 λh=>Jo 66 a 1 λa=>(Zg b).bind λb=>Jo 66 b 0 λb=>(jor (A.agg [h,A.sl 2 a]) (A.sl 2 b)).bind λa=>KR a 0 λb=>KR a 1 λh=>KR a 2 λi=>Jo 66 a 3 λa=>brn (kY b) (brn (kY h) (brn (kY i) (brn (zL b) (kfn true (G 11 [A.agg [b,A.sl 2 a],kJ d]) λa=>jj6 a λa=>j9 a h λb=>j9 a e λd=>yv a (jD .neq false b d) λb=>e_8 a b i c j f g) none) none) none) none))))))) none) none) none) none) none)):=gq Tryz.func4
theorem g40:G 40 [a]=jl 2 a λa=>kF 43 [kJ a] λb=>jI b false λ_=>Z8 b 51 [kJ a] λa=>jY b (vb true) a λa=>jo a:=gq Tryz.func40
theorem g41:G 41 [a]=juT a (vi 0):=gq Tryz.func41
theorem jwQ:juT a b=kLb b a (KS 2 2 a b λc=>kF 69 [c] λc=>kbN c (jo (vb false)) (jN b (vi 1) λb=>juT a b)) (zy a λa=>jjd a (vi 10) λa=>jo a):=hq Tryz.func41
theorem g42:G 42 [a,b,c]=jl 2 a λa=>(G 27 [kJ a]).bind λa=>jgd a λa=>jl 2 a λa=>jt5 b c (vi 0) (sv []) (jc a 0) (jc a 1) []:=gq Tryz.func42
theorem jxG:jt5 a b c d e f p=kF2 70 [A.agg [e,f],a,b] λg h=>jl 2 g λg=>kbN h (brn (zL e) (brn (zL f) (jo (A.tup [A.agg [e,f],c,vb true])) none) none) (yA c (vi 50) λe=>jI e false λ_=>Z8 e 40 [kJ g] λf=>yv e (pUn .not f) λf=>QH e (vb true) f (jo (A.tup [A.agg [sv [],A.sl 2 []],vi 0,vb false])) (brn (zL (jc g 0)) (brn (zL (jc g 1)) (jN c (vi 1) λc=>jt5 a b c d (jc g 0) (jc g 1) p) none) none)):=hq Tryz.func42
theorem g43:G 43 [a]=jl 2 a λa=>kF 71 [kJ a] λb=>jI b true λ_=>yT b 72 [kJ a] λa=>jY b a (vb false) λa=>jo a:=gq Tryz.func43
theorem g44:G 44 [a]=jl 2 a λa=>kF 73 [kJ a] λb=>jI b false λ_=>Z8 b 30 [kJ a] λc=>j9 b c λc=>jI c true λ_=>yT c 61 [kJ a] λa=>yv b (Zb c a (vb false)) λa=>jY b (vb true) a λa=>jo a:=gq Tryz.func44
theorem g45:G 45 [a]=zy a λb=>jjd b (vi 10) λb=>kX b a λa=>yT b 74 [a,A.fn 75 []] λa=>yS b (pUn .not a) λa=>jY b a (vb false) λa=>jo a:=gq Tryz.func45
theorem jxy:jtD a b c=jl 2 a λa=>(jdk (kJ a)).bind λa=>KR a 0 λd=>Jo 66 a 1 λa=>brn (kY d) (brn (zL d) (js1 b c (vi 0) (sv []) d a []) none) none:=vq Tryz.func46
theorem jwy:js1 a b c d e p q=jwt e p a b c d q:=hq Tryz.func46
theorem jwz:jtZ a b c d e p q=jwt e q a b c d p:=hq Tryz.func46
theorem g47:G 47 [a]=jhE a (vi 0) (jo (sv [109,48])) (jiG a (sv [])):=gq Tryz.func47
theorem joN:jiG a b=Yv a (vi 0) ((jD .rem false a (vi 10)).bind λc=>jN (vi 48) c λc=>(jgB .u8 c).bind λc=>brn (zL c) ((YC (A.sl 1 [[c]])).bind λc=>jN c b λb=>jlN a (vi 10) λa=>jiG a b) none) (jN (sv [109]) b λa=>jo a):=hq Tryz.func47
theorem g48:G 48 [a,b,c]=jwv a b c:=gq Tryz.func48
theorem g49:G 49 [a]=kLS a λb=>kFN 48 [b,vi 1,vi 6] λb=>j9 b a λc=>yv b (jaH c (vi 0)) λc=>yv b (jD .lss false c (vy 97)) λc=>jY b (vb true) c λb=>j9 b a λc=>yv b (jaH c (vi 0)) λc=>yv b (jD .gtr false c (vy 122)) λc=>QH b (vb true) c (jo (vb false)) (yA a (sv [116,114,117,101]) λb=>QI b (QI b (jo (vb false)) (Kj a (vi 1))) (yA a (sv [102,97,108,115,101]) λb=>QI b (QI b (jo (vb false)) (Kj a (vi 1))) (yA a (sv [116,114,117,116,104]) λb=>QI b (QI b (jo (vb false)) (Kj a (vi 1))) (yA a (sv [98,111,116,104]) λb=>QI b (QI b (jo (vb false)) (Kj a (vi 1))) (yA a (sv [101,105,116,104,101,114]) λb=>QI b (QI b (jo (vb false)) (Kj a (vi 1))) (yA a (sv [105,102]) λb=>QI b (QI b (jo (vb false)) (Kj a (vi 1))) (yA a (sv [97,108,108]) λb=>QI b (QI b (jo (vb false)) (Kj a (vi 1))) (qR a (sv [115,111,109,101]) (jo (vb false)) (Kj a (vi 1)))))))))):=gq Tryz.func49
theorem joO:Kj a b=kLS a λc=>jP b c (kIS a b λc=>kFN 79 [c] λc=>kX c a λd=>kX c b λe=>yS c (jaH d e) λd=>yS c (jD .neq false d (vy 95)) λd=>QH c d (vb false) (jo (vb false)) (jN b (vi 1) λb=>Kj a b)) (jo (vb true)):=hq Tryz.func49
theorem g50:G 50 [a,b]=jiH a b (vi 0):=gq Tryz.func50
theorem joP:jiH a b c=kLb c a (kIP 1 a c λd=>qR d b (jo (vb true)) (jN c (vi 1) λc=>jiH a b c)) (jo (vb false)):=hq Tryz.func50
theorem g51:G 51 [a]=jl 2 a λa=>qR (jc a 0) (sv [61]) (zy (jc a 1) λb=>yA b (vi 2) λb=>jI b true λ_=>yT b 71 [kJ a] λc=>jY b c (vb false) λb=>jI b true λ_=>kX b (jc a 1) λc=>yS b (jw 2 c (vi 0)) λc=>yS b (zz 2 c) λc=>yT b 72 [c] λc=>jY b c (vb false) λb=>jI b true λ_=>kX b (jc a 1) λa=>yS b (jw 2 a (vi 1)) λa=>yS b (zz 2 a) λa=>yT b 72 [a] λa=>jY b a (vb false) λa=>jo a) (kF 49 [jc a 0] λb=>jI b true λ_=>yT b 43 [kJ a] λa=>jY b a (vb false) λa=>jo a):=gq Tryz.func51
theorem g52:G 52 [a,b]=jl 3 a λa=>jl 2 b λb=>kFN 55 [jc b 0] λc=>jI c true λ_=>jI c true λ_=>kX c (jc b 0) λd=>yT c 80 [Jy a,d] λd=>yS c (jD .lss false d (vi 0)) λd=>QH c d (vb false) (jo (vb false)) (jiI (vi 0) (jc a 0) (jc a 1) (jc a 2) (jc b 0) (jc b 1)):=gq Tryz.func52
theorem joQ:jiI a b c d e f=kLb a f (KS 2 2 f a λg=>kF 52 [A.agg [b,c,d],g] λg=>kbN g (jo (vb false)) (jN a (vi 1) λa=>jiI a b c d e f)) (jo (vb true)):=hq Tryz.func52
theorem g53:G 53 [a,b]=jl 2 a λa=>jl 2 b λb=>kF 81 [kJ b] λc=>jiJ c (vi 0) (jc a 0) (jc a 1) (jc b 0) (jc b 1):=gq Tryz.func53
theorem joR:jiJ a b c d e f=kLb b a (kIP 1 a b λg=>kF 82 [A.agg [c,d],g] λg=>kIP 1 a b λh=>kF 82 [A.agg [e,f],h] λh=>jP g h (jo (vb false)) (jN b (vi 1) λb=>jiJ a b c d e f)) (jo (vb true)):=hq Tryz.func53
theorem g54:G 54 [a,b]=jl 3 a λa=>jl 2 b λb=>kF 55 [jc b 0] λc=>kbN c (kF 80 [Jy a,jc b 0] λc=>kIP 1 (jc a 1) c λc=>jfz c (vi 0) (jc a 0) (jc a 1) (jc a 2) (jc b 0) (jc b 1)) (jfz (jc a 2) (vi 0) (jc a 0) (jc a 1) (jc a 2) (jc b 0) (jc b 1)):=gq Tryz.func54
theorem joS:jfz a b c d e f g=kLb b g (KS 2 2 g b λh=>kF 54 [A.agg [c,d,e],h] λh=>jN a h λa=>jN b (vi 1) λb=>jfz a b c d e f g) (jo a):=hq Tryz.func54
theorem g55:G 55 [a]=kLS a λb=>kFN 48 [b,vi 1,vi 4] λb=>j9 b a λc=>yv b (jaH c (vi 0)) λc=>yv b (jD .lss false c (vy 65)) λc=>jY b (vb true) c λb=>j9 b a λc=>yv b (jaH c (vi 0)) λc=>yv b (jD .gtr false c (vy 90)) λc=>QH b (vb true) c (jo (vb false)) (jdm a (vi 1)):=gq Tryz.func55
theorem joT:jdm a b=kLS a λc=>jP b c (kIS a b λc=>kF 79 [c] λc=>kbN c (jo (vb false)) (jN b (vi 1) λb=>jdm a b)) (jo (vb true)):=hq Tryz.func55
theorem g56:G 56 [a,b,c]=jl 3 a λa=>jl 2 b λb=>jl 2 c λc=>kF 80 [Jy a,jc b 0] λd=>kF 80 [Jy a,jc c 0] λa=>qR d a (zy (jc b 1) λa=>zy (jc c 1) λb=>jP a b (jo (vi (- 1))) (Yv a b (jo (vi 1)) (jo (vi 0)))) (jP d a (jo (vi (- 1))) (Yv d a (jo (vi 1)) (jo (vi 0)))):=gq Tryz.func56
theorem g57:G 57 [a,b]=jl 2 a λa=>jl 2 b λb=>jfA (vi 0) (jc a 0) (jc a 1) (jc b 0) (jc b 1):=gq Tryz.func57
theorem joU:jfA a b c d e=kLb a c (KS 2 2 c a λf=>KS 2 2 e a λg=>kF 83 [f,g] λf=>kbN f (jo a) (jN a (vi 1) λa=>jfA a b c d e)) (jo (vi (- 1))):=hq Tryz.func57
theorem g58:G 58 [a,b,c]=jwv a b c:=gq Tryz.func58
theorem g59:G 59 [a]=kLS a λb=>jfB a b (vi 0):=gq Tryz.func59
theorem jjm:jfB a b c=jP c b (yA c (vi 0) λd=>kX d a λe=>kX d c λf=>yS d (jaH e f) λe=>yT d 84 [e] λe=>yS d (pUn .not e) λe=>jY d e (vb false) λd=>j9 d a λe=>j9 d c λf=>yv d (jaH e f) λe=>Z8 d 84 [e] λe=>yv d (pUn .not e) λe=>j9 d e λe=>kX e a λf=>kX e c λg=>yS e (jaH f g) λf=>yT e 85 [f] λf=>yS e (pUn .not f) λf=>yv d (Zb e f (vb false)) λe=>j9 d e λe=>kX e a λf=>kX e c λg=>yS e (jaH f g) λf=>yS e (jD .neq false f (vy 95)) λf=>yv d (Zb e f (vb false)) λe=>QH d (vb true) e (jo (vb false)) (jN c (vi 1) λc=>jfB a b c)) (kLS a λb=>kF 58 [b,vi 1,vi 6] λb=>yT b 86 [] λc=>kX b a λa=>yT b 60 [c,a] λa=>yS b (pUn .not a) λa=>jY b a (vb false) λa=>jo a):=hq Tryz.func59
theorem g6:G 6 [a,b]=jl 2 a λa=>kLS (jc a 0) λc=>jaw b c λb=>jP b (vi 0) (jo (vi (- 1))) (kF 16 [jc a 1,b] λa=>jP a (vi 0) (jo (vi (- 1))) (jo a)):=gq Tryz.func6
theorem g60:G 60 [a,b]=kF 87 [a,b] λa=>Yh a (vi 0) λa=>jo a:=gq Tryz.func60
theorem g61:G 61 [a]=jl 2 a λa=>kF 30 [kJ a] λb=>QI b (zy (jc a 1) λb=>yA b (vi 2) λb=>jI b true λ_=>yT b 78 [kJ a] λc=>jY b c (vb false) λb=>jI b true λ_=>kX b (jc a 1) λc=>yS b (jw 2 c (vi 0)) λc=>yS b (zz 2 c) λc=>yT b 88 [c] λc=>jY b c (vb false) λb=>jI b true λ_=>kX b (jc a 1) λa=>yS b (jw 2 a (vi 1)) λa=>yS b (zz 2 a) λa=>yT b 88 [a] λa=>jY b a (vb false) λa=>jo a) (kF 59 [jc a 0] λb=>jI b true λ_=>yT b 73 [kJ a] λa=>jY b a (vb false) λa=>jo a):=gq Tryz.func61
theorem joy:jk3 a=zy a λb=>qR b (vi 0) (some (A.top,[A.sl 66 []])) (zy a λb=>kMk 40 b b λb=>zy a λc=>ja8 a c (vi 0) (Q1 b [sv [],A.sl 2 []])):=vq Tryz.func63
theorem jjn:ja8 a b c p=jP c b (KS 2 2 a c λd=>jl 2 d λd=>(jdk (kJ d)).bind λd=>KR d 0 λe=>Jo 66 d 1 λd=>brn (kY e) (kIx (kZ p) c λf=>brn (zL e) (brn (kU e) (kRG p f λg=>jN c (vi 1) λc=>ja8 a b c (zq p f (kE g 0 [e,A.sl 2 d]))) none) none) none) (some (A.top,[A.sl 66 p])):=hq Tryz.func63
theorem g64:G 64 [a,b,c]=QI a (jo (vi 1)) ((DX.run K (MM K) (.callc b [] false)).bind λa=>QI a (jo (vi 2)) ((DX.run K (MM K) (.callc c [] false)).bind λa=>QI a (jo (vi 3)) (jo (vi 0)))):=gq Tryz.func64
theorem g65:G 65 [a,b]=jl 2 a λa=>jl 2 b λb=>yA (jc a 0) (jc b 0) λc=>jI c true λ_=>kX c (jc a 1) λa=>jI c true λ_=>kX c (jc b 1) λb=>yT c 91 [a,b,A.fn 65 []] λa=>jY c a (vb false) λa=>jo a:=gq Tryz.func65
theorem g66:G 66 [a,b,c]=kLN 3 a λa=>kLN 2 b λb=>kLN 2 c λc=>kF 67 [a,b,c] λa=>jo a:=gq Tryz.func66
theorem g67:G 67 [a,b,c]=jl 3 a λa=>jl 2 b λb=>jl 2 c λc=>kF 92 [kJ c] λd=>zy d λe=>jfC d e (vi 0) (jc a 0) (jc a 1) (jc a 2) (jc b 0) (jc b 1) (jc c 0) (jc c 1):=gq Tryz.func67
theorem joV:jfC a b c d e f g h i j=jP c b (kIP 1 a c λk=>kF 93 [A.agg [g,h],k] λl=>kF 93 [A.agg [i,j],k] λk=>jP l k (jo (vb false)) (jN c (vi 1) λc=>jfC a b c d e f g h i j)) (kF 94 [A.agg [d,e,f],A.agg [g,h]] λa=>kF 94 [A.agg [d,e,f],A.agg [i,j]] λb=>jga a b λc=>jI c false λ_=>Z8 c 89 [A.agg [g,h]] λk=>jY c (vb true) k λc=>jI c false λ_=>Z8 c 89 [A.agg [i,j]] λk=>QH c (vb true) k (jf9 a b λa=>jo a) (kF 95 [A.agg [d,e,f],A.agg [i,j],A.agg [g,h]] λa=>QI a (jo (vb true)) (kF 96 [A.agg [g,h],A.agg [i,j]] λa=>jb0 a 0 λb=>jb0 a 1 λc=>jb0 a 2 λa=>jl 2 b λb=>jl 2 c λc=>jI a true λ_=>jI a true λ_=>jI a true λ_=>yT a 67 [A.agg [d,e,f],kJ b,kJ c] λb=>jY a b (vb false) λa=>jo a))):=hq Tryz.func67
theorem g68:G 68 [a,b,c]=kLN 3 a λa=>kLN 2 b λb=>kLN 2 c λc=>kF 67 [a,b,c] λa=>jo a:=gq Tryz.func68
theorem g69:G 69 [a]=jl 2 a λa=>kF 51 [kJ a] λb=>jI b true λ_=>kX b (jc a 0) λc=>yS b (jD .eql false c (sv [61])) λc=>jY b c (vb false) λb=>jI b true λ_=>kX b (jc a 1) λc=>yS b (jw 2 c (vi 0)) λc=>yS b (zz 2 c) λc=>jI b true λ_=>kX b (jc a 1) λa=>yS b (jw 2 a (vi 1)) λa=>yS b (zz 2 a) λa=>yT b 97 [c,a] λa=>yS b (jD .eql false a (vi 2)) λa=>jY b a (vb false) λa=>jo a:=gq Tryz.func69
theorem g70:G 70 [a,b,c]=jl 2 a λa=>(G 98 [kJ a,A.sl 1 []]).bind λd=>jgd d λd=>jtF b c d (vi 0) (jc a 0) (jc a 1) (sv []) []:=gq Tryz.func70
theorem jvW:jtF a b c d e f g p=kLb d c (kIP 1 c d λh=>zy h λh=>yA h (vi 0) λh=>kX h b λi=>yS h (pUn .not i) λi=>QH h i (vb false) (jN d (vi 1) λd=>jtF a b c d e f g p) (kIP 1 c d λh=>kF2 99 [A.agg [e,f],h] λh _=>jl 2 h λh=>jtG a b c d (vi 0) e f g (jc h 0) (jc h 1) p)) (brn (zL e) (brn (zL f) (jo (A.tup [A.agg [e,f],vb false])) none) none):=hq Tryz.func70
theorem jwR:jtG a b c d e f g h i j p=kLb e a (jnF 2 a e 1 λk=>KS 2 2 k (vi 0) λk=>(js2 k i j []).bind λk=>KR k 0 λl=>Jo 259 k 1 λk=>QI l (QI l (kIP 1 c d λb=>(G 103 [A.sl 3 k]).bind λc=>jgd c λc=>jnF 2 a e 1 λa=>KS 2 2 a (vi 1) λa=>(G 102 [c,a]).bind λa=>jgd a λa=>kF 101 [A.agg [f,g],b,a] λa=>jl 2 a λa=>jo (A.tup [kJ a,vb true])) (jN e (vi 1) λe=>jtG a b c d e f g h i j p)) (QI l (kIP 1 c d λ_=>none) (jN e (vi 1) λe=>jtG a b c d e f g h i j p))) (jN d (vi 1) λd=>jtF a b c d f g h p):=hq Tryz.func70
theorem g71:G 71 [a]=jl 2 a λa=>kF 104 [kJ a,vi 30] λb=>jjd b (vi 30) λb=>jI b true λ_=>yT b 105 [kJ a] λa=>yS b (jD .leq false a (vi 8)) λa=>jY b a (vb false) λa=>jo a:=gq Tryz.func71
theorem g72:G 72 [a]=jl 2 a λa=>kF 55 [jc a 0] λb=>QI b (zy (jc a 1) λa=>yA a (vi 0) λa=>jo a) (kFN 49 [jc a 0] λb=>jI b false λ_=>j9 b (jc a 1) λc=>yv b (qe c) λc=>yv b (jD .gtr false c (vi 4)) λc=>QH b (vb true) c (jo (vb false)) (jiK (vi 0) (jc a 0) (jc a 1))):=gq Tryz.func72
theorem joW:jiK a b c=kLb a c (KS 2 2 c a λd=>kF 72 [d] λd=>kbN d (jo (vb false)) (jN a (vi 1) λa=>jiK a b c)) (jo (vb true)):=hq Tryz.func72
theorem g73:G 73 [a]=jl 2 a λa=>kF 78 [kJ a] λb=>jI b true λ_=>yT b 88 [kJ a] λa=>jY b a (vb false) λa=>jo a:=gq Tryz.func73
theorem g74:G 74 [a,b]=kF 106 [a,b] λa=>Yh a (vi 0) λa=>jo a:=gq Tryz.func74
theorem g75:G 75 [a]=jl 2 a λa=>kFN 76 [kJ a] λa=>jo a:=gq Tryz.func75
theorem g76:G 76 [a]=jl 2 a λa=>kF 30 [kJ a] λb=>jI b true λ_=>yT b 61 [kJ a] λc=>jY b c (vb false) λb=>jI b true λ_=>kX b (jc a 1) λc=>yS b (jw 2 c (vi 0)) λc=>yS b (zz 2 c) λc=>jI b true λ_=>kX b (jc a 1) λa=>yS b (jw 2 a (vi 1)) λa=>yS b (zz 2 a) λa=>yT b 107 [c,a] λa=>yS b (jD .eql false a (vi 2)) λa=>jY b a (vb false) λa=>jo a:=gq Tryz.func76
theorem jxz:jhD a b c=jl 2 a λa=>zy (jc a 1) λd=>jrz b c (jc a 1) d (vi 0) (jc a 0) (jc a 1) (sv []) []:=vq Tryz.func77
theorem ju1:jrz a b c d e f g h p=jP e d (KS 2 2 c e λi=>jl 2 i λi=>(jhD (kJ i) a (vb true)).bind λi=>KR i 0 λj=>KR i 1 λk=>Jo 578 i 2 λi=>brn (kY j) (brn (kY k) (QI k (brn (zL j) (QI k ((jdk (A.agg [f,g])).bind λa=>KR a 0 λb=>Jo 66 a 1 λa=>brn (kY b) (brn (zL b) (kIx (kZ a) e λc=>brn (zL j) (brn (kU j) (kRG a c λd=>brn (zL b) (some (A.top,[b,vb true,A.sl 578 (zq a c (kE d 0 [j,A.sl 2 i]))])) none) none) none) none) none) (jN e (vi 1) λe=>jrz a b c d e f g h p)) none) (brn (zL j) (QI k ((jdk (A.agg [f,g])).bind λa=>KR a 0 λb=>Jo 66 a 1 λa=>brn (kY b) (brn (zL b) (kIx (kZ a) e λ_=>brn (zL j) none none) none) none) (jN e (vi 1) λe=>jrz a b c d e f g h p)) none)) none) none) (zy a λc=>jql b a c (vi 0) f g h p):=hq Tryz.func77
theorem ju2:jql a b c d e f g p=jP d c (KS 2 2 b d λh=>jl 2 h λh=>jI a true λ_=>jI a true λ_=>kX a (jc h 1) λi=>yS a (jw 2 i (vi 0)) λi=>yS a (zz 2 i) λi=>jI a true λ_=>jI a true λj=>brn j ((jq4 i e f []).bind λi=>KR i 0 λj=>Jo 128 i 1 λi=>QH a j (vb false) (KS 2 2 (jc h 1) (vi 1) λa=>(jtc a (A.mp i)).bind λa=>jww a) (jN d (vi 1) λd=>jql a b c d e f g p)) (QH a (A.val undef) (vb false) (KS 2 2 (jc h 1) (vi 1) λa=>(jtc a (A.mp [])).bind λa=>jww a) (jN d (vi 1) λd=>jql a b c d e f g p))) (some (A.top,[sv [],vb false,A.sl 578 []])):=hq Tryz.func77
theorem g78:G 78 [a]=jl 2 a λa=>kF 110 [kJ a] λb=>jjd b (vi 30) λb=>jI b true λ_=>yT b 111 [kJ a] λa=>yS b (jD .leq false a (vi 8)) λa=>jY b a (vb false) λa=>jo a:=gq Tryz.func78
theorem g79:G 79 [a]=Yh a (vy 97) λb=>kX b a λc=>yS b (jD .leq false c (vy 122)) λc=>jY b c (vb false) λb=>j9 b a λc=>yv b (jD .geq false c (vy 48)) λc=>j9 b c λc=>kX c a λa=>yS c (jD .leq false a (vy 57)) λa=>yv b (Zb c a (vb false)) λa=>jY b (vb true) a λa=>jo a:=gq Tryz.func79
theorem g80:G 80 [a,b]=jl 3 a λa=>jiL b (vi 0) (jc a 0) (jc a 1) (jc a 2):=gq Tryz.func80
theorem joX:jiL a b c d e=kLb b c (kIP 1 c b λf=>qR f a (jo b) (jN b (vi 1) λb=>jiL a b c d e)) (jo (vi (- 1))):=hq Tryz.func80
theorem g81:G 81 [a]=jl 2 a λa=>kF 112 [A.sl 1 [],kJ a] λa=>jo a:=gq Tryz.func81
theorem g82:G 82 [a,b]=jl 2 a λa=>qR (jc a 0) b (jfD b (vi 1) (vi 0) (jc a 0) (jc a 1)) (jfD b (vi 0) (vi 0) (jc a 0) (jc a 1)):=gq Tryz.func82
theorem joY:jfD a b c d e=kLb c e (KS 2 2 e c λf=>kF 82 [f,a] λf=>jN b f λb=>jN c (vi 1) λc=>jfD a b c d e) (jo b):=hq Tryz.func82
theorem g83:G 83 [a,b]=jl 2 a λa=>jl 2 b λb=>jga (jc a 0) (jc b 0) λc=>jI c false λ_=>j9 c (jc a 1) λd=>yv c (qe d) λd=>jI c false λ_=>j9 c (jc b 1) λe=>yv c (qe e) λe=>yv c (jD .neq false d e) λd=>QH c (vb true) d (jo (vb false)) (jiM (vi 0) (jc a 0) (jc a 1) (jc b 0) (jc b 1)):=gq Tryz.func83
theorem joZ:jiM a b c d e=kLb a c (KS 2 2 c a λf=>KS 2 2 e a λg=>kF 83 [f,g] λf=>kbN f (jo (vb false)) (jN a (vi 1) λa=>jiM a b c d e)) (jo (vb true)):=hq Tryz.func83
theorem g84:G 84 [a]=Yh a (vy 97) λb=>kX b a λa=>yS b (jD .leq false a (vy 122)) λa=>jY b a (vb false) λa=>jo a:=gq Tryz.func84
theorem g85:G 85 [a]=Yh a (vy 48) λb=>kX b a λa=>yS b (jD .leq false a (vy 57)) λa=>jY b a (vb false) λa=>jo a:=gq Tryz.func85
theorem g86:G 86 []=jo (A.sl 1 [[sv [116,114,117,101]],[sv [102,97,108,115,101]],[sv [116,114,117,116,104]],[sv [98,111,116,104]],[sv [101,105,116,104,101,114]],[sv [105,102]],[sv [97,108,108]],[sv [115,111,109,101]]]):=gq Tryz.func86
theorem g87:G 87 [a,b]=zy a λc=>jiN a b c (vi 0):=gq Tryz.func87
theorem jo0:jiN a b c d=jP d c (kIP 1 a d λe=>qR b e (jo d) (jN d (vi 1) λd=>jiN a b c d)) (jo (vi (- 1))):=hq Tryz.func87
theorem g88:G 88 [a]=jl 2 a λa=>kF 113 [jc a 0] λb=>QI b (zy (jc a 1) λa=>yA a (vi 0) λa=>jo a) (kF 59 [jc a 0] λb=>jI b true λ_=>kX b (jc a 1) λc=>yS b (qe c) λc=>yS b (jD .leq false c (vi 4)) λc=>jY b c (vb false) λb=>jI b true λ_=>kX b (jc a 1) λa=>yT b 74 [a,A.fn 114 []] λa=>yS b (pUn .not a) λa=>jY b a (vb false) λa=>jo a):=gq Tryz.func88
theorem g89:G 89 [a]=jl 2 a λa=>kIS (jc a 0) (vi 0) λa=>kF 115 [a] λa=>jo a:=gq Tryz.func89
theorem g91:G 91 [a,b,c]=zy a λd=>zy b λe=>yw d e (jo (vb false)) (zy a λd=>jiO b c a d (vi 0)):=gq Tryz.func91
theorem jo1:jiO a b c d e=jP e d (KS 2 2 c e λf=>jl 2 f λf=>KS 2 2 a e λg=>jl 2 g λg=>(DX.run K (MM K) (.callc b [kJ f,kJ g] false)).bind λf=>kbN f (jo (vb false)) (jN e (vi 1) λe=>jiO a b c d e)) (jo (vb true)):=hq Tryz.func91
theorem g92:G 92 [a]=jl 2 a λa=>(QJ (jc a 0) (jc a 1) []).bind λa=>Jo 1 a 0 λa=>(jhg a).bind λa=>Jo 1 a 0 λa=>jo (A.sl 1 a):=gq Tryz.func92
theorem g93:G 93 [a,b]=jl 2 a λa=>qR (jc a 0) b (zy (jc a 1) λc=>jfE b (vi 1) (jc a 1) c (vi 0)) (zy (jc a 1) λc=>jfE b (vi 0) (jc a 1) c (vi 0)):=gq Tryz.func93
theorem jo2:jfE a b c d e=jP e d (KS 2 2 c e λf=>jl 2 f λf=>kF 93 [kJ f,a] λf=>jN b f λb=>jN e (vi 1) λe=>jfE a b c d e) (jo b):=hq Tryz.func93
theorem g94:G 94 [a,b]=jl 3 a λa=>jl 2 b λb=>kF 89 [kJ b] λc=>QI c (jo (jc a 2)) (kF 87 [jc a 0,jc b 0] λc=>kIP 1 (jc a 1) c λc=>zy (jc b 1) λd=>jiP c (jc b 1) d (vi 0) (jc a 0) (jc a 1) (jc a 2)):=gq Tryz.func94
theorem jo3:jiP a b c d e f g=jP d c (KS 2 2 b d λh=>jl 2 h λh=>kF 94 [A.agg [e,f,g],kJ h] λh=>jN a h λa=>jN d (vi 1) λd=>jiP a b c d e f g) (jo a):=hq Tryz.func94
theorem g95:G 95 [a,b,c]=jl 3 a λa=>jl 2 b λb=>jl 2 c λc=>kF 87 [jc a 0,jc b 0] λd=>kF 87 [jc a 0,jc c 0] λa=>jav d a λe=>j9 e d λd=>j9 e a λa=>yv e (jD .eql false d a) λa=>j9 e a λa=>jI a true λ_=>kX a (jc b 1) λb=>yS a (qe b) λb=>jI a true λ_=>kX a (jc c 1) λc=>yS a (qe c) λc=>yS a (jD .lss false b c) λb=>yv e (Zb a b (vb false)) λa=>jY e (vb true) a λa=>jo a:=gq Tryz.func95
theorem g96:G 96 [a,b]=jl 2 a λa=>jl 2 b λb=>jga (jc a 0) (jc b 0) λc=>jI c false λ_=>j9 c (jc a 1) λd=>yv c (qe d) λd=>jI c false λ_=>j9 c (jc b 1) λe=>yv c (qe e) λe=>yv c (jD .neq false d e) λd=>QH c (vb true) d (jo (A.tup [A.agg [sv [],A.sl 2 []],A.agg [sv [],A.sl 2 []],vb false])) (zy (jc a 1) λc=>jiQ (jc a 1) c (vi 0) (jc b 0) (jc b 1) (sv []) (sv []) [] []):=gq Tryz.func96
theorem jo4:jiQ a b c d e f g p q=jP c b (KS 2 2 a c λh=>jl 2 h λh=>KS 2 2 e c λi=>kF 65 [kJ h,i] λi=>kbN i (KS 2 2 e c λa=>brn (zL (jc h 0)) (brn (zL (jc h 1)) (jl 2 a λa=>jo (A.tup [kJ h,kJ a,vb true])) none) none) (jN c (vi 1) λc=>jiQ a b c d e f g p q)) (jo (A.tup [A.agg [sv [],A.sl 2 []],A.agg [sv [],A.sl 2 []],vb false])):=hq Tryz.func96
theorem g97:G 97 [a,b]=jl 2 a λa=>jl 2 b λb=>kF 83 [kJ a,kJ b] λc=>QI c (jo (vi 1)) (kF 118 [A.sl 1 [],kJ a] λc=>kF 118 [c,kJ b] λc=>brn (zL c) (brn (zL c) (zy c λd=>yA d (vi 0) λd=>jI d false λ_=>j9 d c λe=>yv d (qe e) λe=>yv d (jD .gtr false e (vi 12)) λe=>QH d (vb true) e (jo (vi 0)) (jt6 (vi 0) (jc a 0) (jc a 1) (jc b 0) (jc b 1) c (vi 1) [])) none) none):=gq Tryz.func97
theorem jwS:jt6 a b c d e f g p=kLb a f (brn (Ji ((kZ p)+(kZ [[vi 1]])) 8) (jN a (vi 1) λa=>jt6 a b c d e f g (Kb p [[vi 1]])) none) (kfn true (G 119 [A.agg [f,A.sl 1 p,g],A.agg [b,c],A.agg [d,e]]) λa=>jb0 a 0 λb=>jb0 a 1 λa=>kbN a (jo (vi 0)) (jo b)):=hq Tryz.func97
theorem g98:G 98 [a,b]=jl 2 a λa=>juU b (vi 0) (jc a 0) (jc a 1) []:=gq Tryz.func98
theorem jwT:juU a b c d p=kLb b d (KS 2 2 d b λe=>(jtW a).bind λf=>Jo 1 f 0 λf=>brn (zL b) (brn (Ji ((kZ f)+(kZ [[b]])) 8) ((G 98 [e,A.sl 1 (Kb f [[b]])]).bind λe=>jgd e λe=>kRs 1 e λe=>brn (Ji ((kZ p)+(kZ e)) 24) (jN b (vi 1) λb=>juU a b c d (Kb p e)) none) none) none) ((jtW a).bind λa=>Jo 1 a 0 λa=>brn (Ji ((kZ p)+(kZ [[A.sl 1 a]])) 24) (jo (A.sl 1 (Kb p [[A.sl 1 a]]))) none):=hq Tryz.func98
theorem g99:G 99 [a,b]=jl 2 a λa=>juV b (vi 0) (jc a 0) (jc a 1) (sv []) []:=gq Tryz.func99
theorem jwU:juV a b c d e p=kLb b a (kIP 1 a b λc=>zy d λf=>jaw f (vi 1) λf=>kF 48 [c,vi 0,f] λc=>kbN c (jo (A.tup [A.agg [sv [],A.sl 2 []],vb false])) (kIP 1 a b λc=>KS 2 2 d c λc=>jl 2 c λc=>jN b (vi 1) λb=>juV a b (jc c 0) (jc c 1) e p)) ((G 27 [A.agg [c,d]]).bind λa=>jgd a λa=>jl 2 a λa=>jo (A.tup [kJ a,vb true])):=hq Tryz.func99
theorem jrW:jc0 a b=brn (zL a) (brn (zL b) (brn (zL a) ((Zg b).bind λb=>Jo 66 b 0 λb=>brn (zL a) (some (A.top,[a,A.sl 66 b])) none) none) none) none:=vq Tryz.func9
theorem jrX:jnb a=jl 2 a λa=>brn (zL (jc a 0)) ((Zg (jc a 1)).bind λb=>Jo 66 b 0 λb=>e_9 a b) none:=vq Tryz.func9
end
end
end Go.Proofs.YtjbkclajpheekaaGreat
