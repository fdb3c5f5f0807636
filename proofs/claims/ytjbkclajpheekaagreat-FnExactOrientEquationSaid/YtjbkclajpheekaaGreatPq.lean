/- Pq -/
import Derived.Test.YtjbkclajpheekaaGreatKt
import Derived.KernelRfl
set_option linter.unusedVariables false
namespace Go.Proofs.YtjbkclajpheekaaGreat
open Go Go.RowKit Go.Proofs.YtjbkclajpheekaaGreat.Abs
set_option linter.unusedSimpArgs false
set_option linter.unusedVariables false
noncomputable section
def vT:V:=V.top
def vD (a:A):V:=V.d a
def vP (i:Nat):V:=V.ptr i 0
def vR (i:Nat):V:=V.row i
def tp (n:Nat):List V:=List.replicate n vT
def pth:Nat->Nat->List Nat
 | 0,_=>[]
 | k+1,n=>if Nat.ble n 1 then [] else pth k (n/10)++[n%10]
def hs (sh:Option (List Nat)) (f p:Nat) (l:List V) (n:Nat) (ob:List Abs.Obj):Option Out:=MM K (.head f (pth 60 p) (l++tp n) ob sh)
def hd (f p:Nat) (l:List V) (n:Nat) (ob:List Abs.Obj):Option Out:=hs none f p l n ob
theorem gq {f:FuncId} {fn:Func} {l:List A} {r:Option Out} (h3:Tryz.prog.funcs[f]? = some fn) (h2:K.pureF f=true:=by exact rfl) (h4:fn.body.isSome=true:=by exact rfl) (h5:Nat.ble l.length fn.ntmps=true:=by exact rfl) (h1:K.ext f=none:=by exact rfl) (e:evC K (MM K) f (codeOf fn) [] (K4 fn l) (Je K f fn)=r:=by kernel_rfl):G f l=r:=(jrD h2 h3 h4 h5 h1).trans e
theorem vq {f:FuncId} {fn:Func} {l:List V} {ob:List Abs.Obj} {r:Option Out} (h3:Tryz.prog.funcs[f]? = some fn) (h1:K.extv f=none:=by exact rfl) (h4:fn.body.isSome=true:=by exact rfl) (h5:Nat.ble l.length fn.ntmps=true:=by exact rfl) (e:evC K (MM K) f (codeOf fn) [] (YJ fn l ob) (Je K f fn)=r:=by kernel_rfl):MM K (.callv f l ob)=r:=(jrI h1 h3 h4 h5).trans e
theorem hq {f:FuncId} {fn:Func} {p:List Nat} {l:List V} {ob:List Abs.Obj} {sh:Option (List Nat)} {r:Option Out} (h3:Tryz.prog.funcs[f]? = some fn) (h4:fn.body.isSome=true:=by exact rfl) (e:evAt K (MM K) f (codeOf fn) p [] (St.of fn.ntmps l ob sh) (Je K f fn)=r:=by kernel_rfl):MM K (.head f p l ob sh)=r:=(jrF h3 h4).trans e
section
variable {B:Type}
def jl (n:Nat) (a:A) (k0:List A->Option B):Option B:=(YD n a).bind k0
def jb0 (t:A) (n:Nat) (k0:A->Option B):Option B:=(jci t n).bind k0
def jY (t x y:A) (k0:A->Option B):Option B:=(Zb t x y).bind k0
def jI (t:A) (w:Bool) (k0:Bool->Option B):Option B:=(qY t w).bind k0
def zy (l:A) (k0:A->Option B):Option B:=(qe l).bind k0
def kLN (n:Nat) (a:A) (k0:A->Option B):Option B:=(zz n a).bind k0
def kX (t x:A) (k0:A->Option B):Option B:=(pG t true (some x)).bind k0
def j9 (t x:A) (k0:A->Option B):Option B:=(pG t false (some x)).bind k0
def yS (t:A) (x:Option A) (k0:A->Option B):Option B:=(pG t true x).bind k0
def yv (t:A) (x:Option A) (k0:A->Option B):Option B:=(pG t false x).bind k0
def yT (t:A) (n:Nat) (l:List A) (k0:A->Option B):Option B:=(pG t true ((G n l).bind (fin false))).bind k0
def Z8 (t:A) (n:Nat) (l:List A) (k0:A->Option B):Option B:=(pG t false ((G n l).bind (fin false))).bind k0
def kF (n:Nat) (l:List A) (k0:A->Option B):Option B:=((G n l).bind (fin false)).bind k0
def jgd (o:Out) (k0:A->Option B):Option B:=(fin false o).bind k0
def kfn (b:Bool) (x:Option Out) (k0:A->Option B):Option B:=(x.bind (fin b)).bind k0
def jj6 (x:A) (k0:A->Option B):Option B:=(pUn .not x).bind k0
def KR (o:Out) (i:Nat) (k0:A->Option B):Option B:=(hD o i).bind k0
def Jo (k:Nat) (o:Out) (i:Nat) (k0:List (List A)->Option B):Option B:=(hR k o i).bind k0
def kIx (n:Nat) (i:A) (k0:Nat->Option B):Option B:=(pIx n i).bind k0
def kB (d t:Nat) (x:Option A) (k0:Nat->Option B):Option B:=(pB d t x).bind k0
def kRN (l:List (List A)) (i j n:Nat) (k0:A->Option B):Option B:=(jmq l i j n).bind k0
def kRG (l:List (List A)) (i:Nat) (k0:List A->Option B):Option B:=(Zy l i).bind k0
def kIS (a i:A) (k0:A->Option B):Option B:=(k9 a i).bind k0
def kSl (k:Nat) (a:A) (x y:Option A) (k0:A->Option B):Option B:=(zU k a x y).bind k0
def kRP (l:List (List A)) (i j:Nat) (k0:A->Option B):Option B:=(jmr l i j).bind k0
def kMk (n:Nat) (a b:A) (k0:Nat->Option B):Option B:=(jaF n a b).bind k0
def kRs (k:Nat) (a:A) (k0:List (List A)->Option B):Option B:=(qX k a).bind k0
def kLS (a:A) (k0:A->Option B):Option B:=(Qr a).bind k0
def jN (x y:A) (k0:A->Option B):Option B:=(jD .add false x y).bind k0
def yA (x y:A) (k0:A->Option B):Option B:=(jD .eql false x y).bind k0
def Yh (x y:A) (k0:A->Option B):Option B:=(jD .geq false x y).bind k0
def jf9 (x y:A) (k0:A->Option B):Option B:=(jD .gtr false x y).bind k0
def jjd (x y:A) (k0:A->Option B):Option B:=(jD .leq false x y).bind k0
def jav (x y:A) (k0:A->Option B):Option B:=(jD .lss false x y).bind k0
def joA (x y:A) (k0:A->Option B):Option B:=(jD .mul false x y).bind k0
def jga (x y:A) (k0:A->Option B):Option B:=(jD .neq false x y).bind k0
def jlN (x y:A) (k0:A->Option B):Option B:=(jD .quo false x y).bind k0
def joB (x y:A) (k0:A->Option B):Option B:=(jD .shr false x y).bind k0
def jaw (x y:A) (k0:A->Option B):Option B:=(jD .sub false x y).bind k0
def QI (t:A) (X Y:Option B):Option B:=(yc t).bind λu=>brn u X Y
def QH (c x y:A) (X Y:Option B):Option B:=(Zb c x y).bind λt=>(yc t).bind λu=>brn u X Y
def kbN (x:A) (X Y:Option B):Option B:=(pUn .not x).bind λt=>(yc t).bind λu=>brn u X Y
def kLb (i l:A) (X Y:Option B):Option B:=(qe l).bind λn=>(jD .lss false i n).bind λt=>(yc t).bind λu=>brn u X Y
def kF2 (n:Nat) (l:List A) (k:A->A->Option B):Option B:=((G n l).bind (fin false)).bind λt=>(jci t 0).bind λa=>(jci t 1).bind λb=>k a b
def kFN (n:Nat) (l:List A) (k:A->Option B):Option B:=((G n l).bind (fin false)).bind λt=>(pUn .not t).bind k
def KS (n m:Nat) (x i:A) (k:A->Option B):Option B:=(jw m x i).bind λt=>(zz n t).bind k
def kIP (m:Nat) (x i:A) (k:A->Option B):Option B:=(jw m x i).bind λt=>(yW t).bind k
def jqV (n m:Nat) (x i:A) (o:Nat) (k:A->Option B):Option B:=(jw m x i).bind λt=>(jeX t o).bind λt=>(zz n t).bind k
def jnF (m:Nat) (x i:A) (o:Nat) (k:A->Option B):Option B:=(jw m x i).bind λt=>(jeX t o).bind λt=>(yW t).bind k
def jP (x y:A) (X Y:Option B):Option B:=(jD .lss false x y).bind λt=>(yc t).bind λu=>brn u X Y
def jhE (x y:A) (X Y:Option B):Option B:=(jD .leq false x y).bind λt=>(yc t).bind λu=>brn u X Y
def Yv (x y:A) (X Y:Option B):Option B:=(jD .gtr false x y).bind λt=>(yc t).bind λu=>brn u X Y
def jlO (x y:A) (X Y:Option B):Option B:=(jD .geq false x y).bind λt=>(yc t).bind λu=>brn u X Y
def qR (x y:A) (X Y:Option B):Option B:=(jD .eql false x y).bind λt=>(yc t).bind λu=>brn u X Y
def yw (x y:A) (X Y:Option B):Option B:=(jD .neq false x y).bind λt=>(yc t).bind λu=>brn u X Y
def jo (x:A):Option Out:=some (x,[])
def jqX (t:List A):A:=A.agg [jc t 0]
def kJ (t:List A):A:=A.agg [jc t 0,jc t 1]
def Jy (t:List A):A:=A.agg [jc t 0,jc t 1,jc t 2]
end
section
variable (a b c d e f g h i j k l m n o aa ab ac ad ae af ag ah ai aj ak al am:A) (p q r s t u v w x y z:List (List A))
def jel:=hd 104 111010 [vT,vD a,vP 0,vT,vT,vD b,vD c] 24 [.box [vD d,vD e]]
def jem:=hd 105 111010 [vT,vP 0,vT,vD a,vD b] 17 [.box [vD c,vD d]]
def jen:=hd 106 11010 ([vD a,vD b]++tp 5++[vD c,vD d]) 10 []
def jiy:=MM K (.callv 10 [vD a,vD b] [])
def jeo:=hd 110 111010 [vT,vT,vT,vD a,vT,vT,vT,vD b,vD c,vD d] 12 []
def jep:=hd 111 111010 [vT,vT,vT,vD a,vT,vT,vT,vD b,vD c,vD d] 10 []
def jeq:=hd 112 111010 [vD a,vT,vT,vP 0,vT,vD b] 22 [.box [vD c,vD d]]
def jbv:=hd 113 11010 ([vD a]++tp 4++[vD b,vD c]) 33 []
def QJ:=MM K (.callv 116 [vR 0,V.agg [V.d a,V.d b]] [.row 1 p])
def jbw:=hs (some [0]) 116 111010 ([vR 0]++tp 26++[vD a,vD b,vD c]) 8 [.row 1 p]
def jbx:=hs (some [1]) 116 111010 ([vR 0]++tp 26++[vD a,vD b,vD c]) 8 [.row 1 p,.gone]
def jhg:=MM K (.callv 117 [vR 0] [.row 1 p])
def jer:=hd 126 11100 [vD a,vD b,vT,vT,vT,vD c] 39 []
def jkY:=MM K (.callv 13 [V.agg [V.row 0,V.row 1,V.d a],vD b] [.row 1 p,.row 1 q])
def jbr:=MM K (.callv 14 [V.agg [V.d a,V.row 0],vD b] [.tre true 2 p])
def jfx:=hd 16 1111010 [vD a,vD b,vT,vT,vT,vD c] 21 []
def Zg:=MM K (.callv 18 [vD a] [])
def ja2:=hs (some []) 18 111010 [vD a,vT,vT,vR 0,vD b] 18 [.tre false 2 p]
def jor:=MM K (.callv 19 [vD a,vD b] [])
def jiz:=hd 20 111010 [vD a,vD b,vT,vT,vT,vD c] 21 []
def jbs:=MM K (.callv 21 [vR 0,vD a] [.tre true 2 p])
def ja3:=hs (some [0]) 21 11010 [vR 0,vD a,vT,vT,vT,vD b] 22 [.tre true 2 p]
def jfy:=hd 22 1111010 [vD a,vD b,vT,vT,vT,vD c] 22 []
def jiA:=hd 24 111010 [vT,vP 0,vT,vD a] 57 [.box [vD b,vD c,vD d]]
def jiB:=hd 27 111010 [vT,vP 0,vP 1,vP 2,vD a] 22 [.box [vD b,vD c],.box [vD d,vR 3],.box [vD e,vR 4],.row 2 p,.row 2 q]
def jkZ:=MM K (.callv 28 [vD a] [])
def ja4:=hs (some []) 28 111010 [vD a,vT,vT,vR 0,vD b] 17 [.row 1 p]
def jk0:=MM K (.callv 29 [vD a] [])
def ja5:=hs (some []) 29 111010 [vD a,vT,vT,vR 0,vD b] 17 [.row 1 p]
def jiC:=hd 31 111010 ([vT,vP 0]++tp 24++[vD a,vD b,vD c]) 27 [.box [vD d,vD e,vD f]]
def jdk:=MM K (.callv 33 [vD a] [])
def jiD:=hd 35 111010 [vD a,vD b,vT,vT,vT,vD c] 20 []
def jiE:=hd 36 111010 [vD a,vD b,vT,vT,vT,vD c] 20 []
def jk1:=MM K (.callv 37 [vR 0,vD a] [.row 1 p])
def ja6:=hs (some [0]) 37 11010 [vR 0,vD a,vT,vT,vT,vD b] 14 [.row 1 p]
def jk2:=MM K (.callv 38 [vR 0,vD a] [.row 1 p])
def ja7:=hs (some [0]) 38 11010 [vR 0,vD a,vT,vT,vT,vD b] 13 [.row 1 p]
def jiF:=hd 39 11010 [vD a,vD b,vT,vT,vT,vD c] 26 []
def jiG:=hd 47 111100 [vD a,vT,vT,vD b] 16 []
def Kj:=hd 49 1111010 [vD a,vT,vT,vD b] 41 []
def jiH:=hd 50 11010 [vD a,vD b,vT,vT,vT,vD c] 12 []
def jiI:=hd 52 111010 [vT,vT,vP 0,vP 1,vT,vD a] 26 [.box [vD b,vD c,vD d],.box [vD e,vD f]]
def jiJ:=hd 53 111010 [vT,vT,vP 0,vP 1,vT,vD a,vD b] 21 [.box [vD c,vD d],.box [vD e,vD f]]
def jfz:=hd 54 1111010 [vT,vT,vP 0,vP 1,vT,vD a,vD b] 31 [.box [vD c,vD d,vD e],.box [vD f,vD g]]
def jdm:=hd 55 111010 [vD a,vT,vT,vD b] 25 []
def jfA:=hd 57 11010 [vT,vT,vP 0,vP 1,vT,vD a] 20 [.box [vD b,vD c],.box [vD d,vD e]]
def jfB:=hd 59 11010 ([vD a]++tp 4++[vD b,vD c]) 41 []
def jk3:=MM K (.callv 63 [vD a] [])
def ja8:=hs (some []) 63 1111010 ([vT,vT,vT,vR 0]++tp 8++[vD a,vD b,vD c]) 11 [.tre false 2 p]
def jfC:=hd 67 11010 ([vT,vT,vT,vP 0,vP 1,vP 2]++tp 9++[vD a,vD b,vD c]) 49 [.box [vD d,vD e,vD f],.box [vD g,vD h],.box [vD i,vD j]]
def jiK:=hd 72 1111010 [vT,vP 0,vT,vD a] 31 [.box [vD b,vD c]]
def jiL:=hd 80 11010 [vT,vD a,vP 0,vT,vT,vD b] 15 [.box [vD c,vD d,vD e]]
def jfD:=hd 82 1111010 [vT,vD a,vP 0,vT,vT,vD b,vD c] 21 [.box [vD d,vD e]]
def jiM:=hd 83 111010 [vT,vT,vP 0,vP 1,vT,vD a] 33 [.box [vD b,vD c],.box [vD d,vD e]]
def jiN:=hd 87 11010 ([vD a,vD b]++tp 5++[vD c,vD d]) 10 []
def jjQ:=MM K (.callv 8 [V.agg [V.d a,V.d b,V.d c]] [])
def jiO:=hd 91 111010 ([vT,vD a,vD b]++tp 12++[vD c,vD d,vD e]) 14 []
def jfE:=hd 93 1111010 ([vT,vD a,vT,vT,vT,vD b]++tp 7++[vD c,vD d,vD e]) 10 []
def jiP:=hd 94 1111010 ([vT,vT,vP 0,vT,vT,vD a]++tp 16++[vD b,vD c,vD d]) 10 [.box [vD e,vD f,vD g]]
def jiQ:=hd 96 111010 ([vT,vT,vT,vP 0,vP 1,vP 2]++tp 20++[vD a,vD b,vD c]) 21 [.box [vD d,vD e],.box [vD f,vR 3],.box [vD g,vR 4],.row 2 p,.row 2 q]
def jc0:=MM K (.callv 9 [V.agg [V.d a,V.d b]] [])
def jnb:=MM K (.callv 9 [vD a] [])
def e_0 (a:A) (b:A) (c:A) (p:List (List A)):Option Out:=jP a b (KS 2 2 c a λd=>jl 2 d λd=>(QJ (jc d 0) (jc d 1) p).bind λd=>Jo 1 d 0 λd=>jN a (vi 1) λa=>jbx c b a d) (some (A.top,[A.sl 1 p]))
def e_1 (a:A) (b:A) (c:A) (d:A) (e:A) (p:List (List A)) (f:A):Option Out:=jY a (vb true) b λa=>j9 a c λb=>j9 a d λc=>yv a (jD .neq true b c) λb=>QH a (vb true) b (jo (vb false)) (kfn true (G 15 [A.agg [e,A.sl 2 p],vi 1]) λa=>jP a (vi 0) (jo (vb false)) (yw a f (jo (vb false)) (jo (vb true))))
def e_2 (a:List A) (p:List (List A)):Option Out:=brn (zL (jc a 0)) (some (A.top,[jc a 0,A.sl 66 p])) none
def e_3 (a:A) (b:A) (c:A):Option Out:=Yh a b λb=>kX b a λa=>kX b c λc=>yS b (jD .leq false a c) λa=>jY b a (vb false) λa=>jo a
theorem cev:type_of% (And.intro @jl.eq_1 (And.intro @jb0.eq_1 (And.intro @jY.eq_1 (And.intro @jI.eq_1 (And.intro @zy.eq_1 (And.intro @kLN.eq_1 (And.intro @kX.eq_1 (And.intro @j9.eq_1 (And.intro @yS.eq_1 (And.intro @yv.eq_1 (And.intro @yT.eq_1 (And.intro @Z8.eq_1 (And.intro @kF.eq_1 (And.intro @jgd.eq_1 (And.intro @kfn.eq_1 (And.intro @jj6.eq_1 (And.intro @KR.eq_1 (And.intro @Jo.eq_1 (And.intro @kIx.eq_1 (And.intro @kB.eq_1 (And.intro @kRN.eq_1 (And.intro @kRG.eq_1 (And.intro @kIS.eq_1 (And.intro @kSl.eq_1 (And.intro @kRP.eq_1 (And.intro @kMk.eq_1 (And.intro @kRs.eq_1 (And.intro @kLS.eq_1 (And.intro @jN.eq_1 (And.intro @yA.eq_1 (And.intro @Yh.eq_1 (And.intro @jf9.eq_1 (And.intro @jjd.eq_1 (And.intro @jav.eq_1 (And.intro @joA.eq_1 (And.intro @jga.eq_1 (And.intro @jlN.eq_1 (And.intro @joB.eq_1 (And.intro @jaw.eq_1 (And.intro @QI.eq_1 (And.intro @QH.eq_1 (And.intro @kbN.eq_1 (And.intro @kLb.eq_1 (And.intro @kF2.eq_1 (And.intro @kFN.eq_1 (And.intro @KS.eq_1 (And.intro @kIP.eq_1 (And.intro @jqV.eq_1 (And.intro @jnF.eq_1 (And.intro @jP.eq_1 (And.intro @jhE.eq_1 (And.intro @Yv.eq_1 (And.intro @jlO.eq_1 (And.intro @qR.eq_1 (And.intro @yw.eq_1 (And.intro @jo.eq_1 (And.intro @jqX.eq_1 (And.intro @kJ.eq_1 (And.intro @Jy.eq_1 (And.intro @e_0.eq_1 (And.intro @e_1.eq_1 (And.intro @e_2.eq_1 (@e_3.eq_1))))))))))))))))))))))))))))))))))))))))))))))))))))))))))))))):=And.intro @jl.eq_1 (And.intro @jb0.eq_1 (And.intro @jY.eq_1 (And.intro @jI.eq_1 (And.intro @zy.eq_1 (And.intro @kLN.eq_1 (And.intro @kX.eq_1 (And.intro @j9.eq_1 (And.intro @yS.eq_1 (And.intro @yv.eq_1 (And.intro @yT.eq_1 (And.intro @Z8.eq_1 (And.intro @kF.eq_1 (And.intro @jgd.eq_1 (And.intro @kfn.eq_1 (And.intro @jj6.eq_1 (And.intro @KR.eq_1 (And.intro @Jo.eq_1 (And.intro @kIx.eq_1 (And.intro @kB.eq_1 (And.intro @kRN.eq_1 (And.intro @kRG.eq_1 (And.intro @kIS.eq_1 (And.intro @kSl.eq_1 (And.intro @kRP.eq_1 (And.intro @kMk.eq_1 (And.intro @kRs.eq_1 (And.intro @kLS.eq_1 (And.intro @jN.eq_1 (And.intro @yA.eq_1 (And.intro @Yh.eq_1 (And.intro @jf9.eq_1 (And.intro @jjd.eq_1 (And.intro @jav.eq_1 (And.intro @joA.eq_1 (And.intro @jga.eq_1 (And.intro @jlN.eq_1 (And.intro @joB.eq_1 (And.intro @jaw.eq_1 (And.intro @QI.eq_1 (And.intro @QH.eq_1 (And.intro @kbN.eq_1 (And.intro @kLb.eq_1 (And.intro @kF2.eq_1 (And.intro @kFN.eq_1 (And.intro @KS.eq_1 (And.intro @kIP.eq_1 (And.intro @jqV.eq_1 (And.intro @jnF.eq_1 (And.intro @jP.eq_1 (And.intro @jhE.eq_1 (And.intro @Yv.eq_1 (And.intro @jlO.eq_1 (And.intro @qR.eq_1 (And.intro @yw.eq_1 (And.intro @jo.eq_1 (And.intro @jqX.eq_1 (And.intro @kJ.eq_1 (And.intro @Jy.eq_1 (And.intro @e_0.eq_1 (And.intro @e_1.eq_1 (And.intro @e_2.eq_1 (@e_3.eq_1))))))))))))))))))))))))))))))))))))))))))))))))))))))))))))))
theorem jpw (r0:List (List A)):jhg r0=jgW [V.row 0] [.row 1 r0]:=Eq.trans (jrJ (x:=jmH) rfl) rfl
theorem jr3:G 104 [a,b]=jl 2 a λa=>jel b (vi 1) (vi 0) (jc a 0) (jc a 1):=gq Tryz.func104
theorem jhI:jel a b c d e=zy e λf=>jav c f λf=>kX f b λg=>kX f a λh=>yS f (jD .leq false g h) λg=>QH f g (vb false) (KS 2 2 e c λf=>jaw a b λg=>kF 104 [f,g] λf=>jN b f λb=>jN c (vi 1) λc=>jel a b c d e) (jo b):=hq Tryz.func104
theorem jr4:G 105 [a]=jl 2 a λa=>jem (vi 0) (vi 0) (jc a 0) (jc a 1):=gq Tryz.func105
theorem jlT:jem a b c d=kLb b d (KS 2 2 d b λe=>kF 105 [e] λe=>kF 123 [a,e] λa=>jN b (vi 1) λb=>jem a b c d) (jN a (vi 1) λa=>jo a):=hq Tryz.func105
theorem jr5:G 106 [a,b]=zy a λc=>jen a b c (vi 0):=gq Tryz.func106
theorem jlU:jen a b c d=jP d c (KS 2 2 a d λe=>(DX.run K (MM K) (.callc b [e] false)).bind λe=>QI e (jo d) (jN d (vi 1) λd=>jen a b c d)) (jo (vi (- 1))):=hq Tryz.func106
theorem jfN:jiy a b=jl 3 a λa=>jl 2 b λb=>kFN 30 [kJ b] λc=>jI c false λ_=>Z8 c 31 [Jy a] λd=>yv c (pUn .not d) λd=>jY c (vb true) d λc=>jI c false λ_=>jI c false λ_=>Z8 c 32 [Jy a,kJ b] λd=>yv c (pUn .not d) λd=>QH c (vb true) d (some (A.top,[sv [],vb false,vb false,A.sl 66 []])) ((jdk (kJ b)).bind λc=>KR c 0 λd=>Jo 66 c 1 λc=>brn (kY d) (brn (zL d) (KS 2 2 (jc b 1) (vi 0) λe=>KS 2 2 (jc b 1) (vi 1) λb=>kF 34 [Jy a,e,b] λa=>qR a (vi 3) (kIx (kZ c) (vi 1) λb=>kRG c b λe=>brn (kU (jc e 0)) (kRs 2 (jc e 1) λf=>kIx (kZ (zq c b (kE e 1 [A.top]))) (vi 0) λg=>kRG (zq c b (kE e 1 [A.top])) g λh=>brn (kU (jc h 0)) (kRs 2 (jc h 1) λi=>kIx (kZ (zq (zq c b (kE e 1 [A.top])) g (kE h 1 [A.top]))) (vi 0) λj=>brn (zL (jc e 0)) (brn (kU (jc e 0)) (kRG (zq (zq c b (kE e 1 [A.top])) g (kE h 1 [A.top])) j λk=>kIx (kZ (zq (zq (zq c b (kE e 1 [A.top])) g (kE h 1 [A.top])) j (kE k 0 [jc e 0,A.sl 2 f]))) (vi 1) λl=>brn (zL (jc h 0)) (brn (kU (jc h 0)) (kRG (zq (zq (zq c b (kE e 1 [A.top])) g (kE h 1 [A.top])) j (kE k 0 [jc e 0,A.sl 2 f])) l λm=>brn (pNe b g) (brn (pNe g b) (brn (pNe b g) (yA a (vi 3) λn=>j9 n a λa=>yv n (jD .eql false a (vi 2)) λa=>jY n (vb true) a λa=>brn (zL d) (some (A.top,[d,a,vb true,A.sl 66 (zq (zq (zq (zq c b (kE e 1 [A.top])) g (kE h 1 [A.top])) j (kE k 0 [jc e 0,A.sl 2 f])) l (kE m 0 [jc h 0,A.sl 2 i]))])) none) none) none) none) none) none) none) none) none) none) (yA a (vi 3) λb=>j9 b a λa=>yv b (jD .eql false a (vi 2)) λa=>jY b (vb true) a λa=>brn (zL d) (some (A.top,[d,a,vb true,A.sl 66 c])) none)) none) none):=vq Tryz.func10
theorem g11:G 11 [a,b]=jl 2 a λa=>jl 2 b λb=>yw (jc a 0) (jc b 0) (jo (vb false)) (kF 20 [jc a 1,jc b 1] λa=>kbN a (jo (vb false)) (jo (vb true))):=gq Tryz.func11
theorem jr6:G 110 [a]=jl 2 a λa=>zy (jc a 1) λb=>jeo (vi 1) (jc a 1) b (vi 0):=gq Tryz.func110
theorem jhJ:jeo a b c d=jP d c (KS 2 2 b d λe=>jl 2 e λe=>Yv a (vi 30) (jo a) (kF 110 [kJ e] λe=>jN a e λa=>jN d (vi 1) λd=>jeo a b c d)) (jo a):=hq Tryz.func110
theorem jr7:G 111 [a]=jl 2 a λa=>zy (jc a 1) λb=>jep (vi 0) (jc a 1) b (vi 0):=gq Tryz.func111
theorem jlV:jep a b c d=jP d c (KS 2 2 b d λe=>jl 2 e λe=>kF 111 [kJ e] λe=>(jh3 a e).bind λa=>jN d (vi 1) λd=>jep a b c d) (jN a (vi 1) λa=>jo a):=hq Tryz.func111
theorem jr8:G 112 [a,b]=jl 2 b λb=>kF 55 [jc b 0] λc=>QI c (kF 126 [a,jc b 0] λa=>jo a) (jeq a (vi 0) (jc b 0) (jc b 1)):=gq Tryz.func112
theorem jlW:jeq a b c d=kLb b d (KS 2 2 d b λe=>kF 112 [a,e] λa=>jN b (vi 1) λb=>jeq a b c d) (jo a):=hq Tryz.func112
theorem jr9:G 113 [a]=kLS a λb=>jbv a b (vi 0):=gq Tryz.func113
theorem jeL:jbv a b c=jP c b (yA c (vi 0) λd=>kX d a λe=>kX d c λf=>yS d (k9 e f) λe=>yT d 115 [e] λe=>yS d (pUn .not e) λe=>jY d e (vb false) λd=>j9 d c λe=>yv d (jD .gtr false e (vi 0)) λe=>j9 d e λe=>kX e a λf=>kX e c λg=>yS e (k9 f g) λf=>yT e 84 [f] λf=>yS e (pUn .not f) λf=>yv d (Zb e f (vb false)) λe=>j9 d e λe=>kX e a λf=>kX e c λg=>yS e (k9 f g) λf=>yT e 85 [f] λf=>yS e (pUn .not f) λf=>yv d (Zb e f (vb false)) λe=>QH d (vb true) e (jo (vb false)) (jN c (vi 1) λc=>jbv a b c)) (kLS a λa=>kF 58 [a,vi 1,vi 4] λa=>jo a):=hq Tryz.func113
theorem jsa:G 114 [a]=jl 2 a λa=>kFN 88 [kJ a] λa=>jo a:=gq Tryz.func114
theorem jsb:G 115 [a]=Yh a (vy 65) λb=>kX b a λa=>yS b (jD .leq false a (vy 90)) λa=>jY b a (vb false) λa=>jo a:=gq Tryz.func115
theorem jpv:QJ a b p=brn (zL a) (brn (zL b) (zy b λc=>yA c (vi 0) λc=>jI c true λ_=>yT c 89 [A.agg [a,b]] λd=>QH c d (vb false) (kfn true (G 60 [A.sl 1 p,a]) λb=>kbN b (brn (zL a) (brn (Ji ((kZ p)+(kZ [[a]])) 16) (some (A.top,[A.sl 1 (Kb p [[a]])])) none) none) (some (A.top,[A.sl 1 p]))) (zy b λa=>jbw b a (vi 0) p)) none) none:=vq Tryz.func116
theorem jlX:jbw a b c p=e_0 c b a p:=hq Tryz.func116
theorem jgh:jbx a b c p=e_0 c b a p:=hq Tryz.func116
theorem g12:G 12 [a,b]=jl 3 a λa=>jl 3 b λb=>kF 35 [jc a 0,jc b 0] λc=>kbN c (jo (vb false)) (kF 36 [jc a 1,jc b 1] λc=>kbN c (jo (vb false)) (yw (jc a 2) (jc b 2) (jo (vb false)) (jo (vb true)))):=gq Tryz.func12
theorem jsc:G 123 [a,b]=Yv a b (jo a) (jo b):=gq Tryz.func123
theorem jsd:G 126 [a,b]=jer a b (vi 0):=gq Tryz.func126
theorem jlY:jer a b c=zy a λd=>jav c d λd=>kX d a λe=>kX d c λf=>yS d (jw 1 e f) λe=>yS d (yW e) λe=>kX d b λf=>yS d (jD .lss false e f) λe=>QH d e (vb false) (jN c (vi 1) λc=>jer a b c) (zy a λd=>jav c d λd=>kX d a λe=>kX d c λf=>yS d (jw 1 e f) λe=>yS d (yW e) λe=>kX d b λf=>yS d (jD .eql false e f) λe=>QH d e (vb false) (jo a) (kSl 1 a none (some c) λd=>kRs 1 d λd=>brn (Ji (kZ d) 16) (brn (zL b) (brn (Ji ((kZ d)+(kZ [[b]])) 16) (kSl 1 a (some c) none λa=>kRs 1 a λa=>brn (Ji ((kZ (Kb d [[b]]))+(kZ a)) 16) (jo (A.sl 1 (Kb (Kb d [[b]]) a))) none) none) none) none)):=hq Tryz.func126
theorem jqC:jkY a b p q=brn (zL a) ((jk1 b p).bind λa=>KR a 0 λb=>Jo 1 a 1 λa=>(jk2 b q).bind λb=>KR b 0 λc=>Jo 1 b 1 λb=>some (A.top,[c,A.sl 1 a,A.sl 1 b])) none:=vq Tryz.func13
theorem jqD:jbr a b p=brn (zL a) ((jbs b p).bind λa=>KR a 0 λb=>Jo 66 a 1 λa=>some (A.top,[b,A.sl 66 a])) none:=vq Tryz.func14
theorem g15:G 15 [a,b]=jl 2 a λa=>kF 39 [jc a 1,b] λa=>jP a (vi 0) (jo (vi (- 1))) (jo a):=gq Tryz.func15
theorem g16:G 16 [a,b]=zy a λc=>jaw b c λb=>jP b (vi 0) (jo (vi (- 1))) (jfx a b (vi 0)):=gq Tryz.func16
theorem joE:jfx a b c=kLb c a (KS 2 2 a c λd=>kF 6 [d,b] λb=>jP b (vi 0) (jo (vi (- 1))) (jN c (vi 1) λc=>jfx a b c)) (jo b):=hq Tryz.func16
theorem jqE:Zg a=zy a λb=>kMk 40 b b λb=>ja2 a (vi 0) (Q1 b [sv [],A.sl 2 []]):=vq Tryz.func18
theorem jjg:ja2 a b p=kLb b a (KS 2 2 a b λc=>(jnb c).bind λc=>KR c 0 λd=>Jo 66 c 1 λc=>kIx (kZ p) b λe=>brn (zL d) (brn (kU d) (kRG p e λf=>jN b (vi 1) λb=>ja2 a b (zq p e (kE f 0 [d,A.sl 2 c]))) none) none) (some (A.top,[A.sl 66 p])):=hq Tryz.func18
theorem g20:G 20 [a,b]=zy a λc=>zy b λd=>yw c d (jo (vb false)) (jiz a b (vi 0)):=gq Tryz.func20
theorem joF:jiz a b c=kLb c a (KS 2 2 a c λd=>KS 2 2 b c λe=>kF 11 [d,e] λd=>kbN d (jo (vb false)) (jN c (vi 1) λc=>jiz a b c)) (jo (vb true)):=hq Tryz.func20
theorem jqF:jbs a p=ja3 a (vi 0) p:=vq Tryz.func21
theorem jjh:ja3 a b p=jP b (jcp p) (kF 47 [a] λc=>kIx (kZ p) b λd=>brn (zL c) (brn (kU c) (kRG p d λe=>brn (jmM e 0 1) (jN a (vi 1) λa=>kIx (kZ (zq p d (kE e 0 [c]))) b λf=>kRG (zq p d (kE e 0 [c])) f λg=>brn (jf8 (jc g 1)) (kRG (zq p d (kE e 0 [c])) f λg=>kRs 2 (jc g 1) λh=>(jbs a h).bind λa=>KR a 0 λh=>Jo 66 a 1 λa=>jN b (vi 1) λb=>ja3 h b (zq (zq p d (kE e 0 [c])) f (kE g 1 [A.sl 2 a]))) none) none) none) none) (some (A.top,[a,A.sl 66 p])):=hq Tryz.func21
theorem g22:G 22 [a,b]=zy a λc=>jaw b c λb=>jP b (vi 0) (jo (vi (- 1))) (jfy a b (vi 0)):=gq Tryz.func22
theorem joG:jfy a b c=kLb c a (kIP 1 a c λd=>kLS d λd=>jaw b d λb=>jP b (vi 0) (jo (vi (- 1))) (jN c (vi 1) λc=>jfy a b c)) (jo b):=hq Tryz.func22
theorem g23:G 23 [a,b]=zy a λa=>jaw b a λa=>jP a (vi 0) (jo (vi (- 1))) (jo a):=gq Tryz.func23
theorem g24:G 24 [a]=jl 3 a λa=>zy (jc a 0) λb=>kFN 48 [b,vi 1,vi 12] λb=>jI b false λ_=>j9 b (jc a 1) λc=>yv b (qe c) λc=>jI b false λ_=>j9 b (jc a 0) λd=>yv b (qe d) λd=>yv b (jD .neq false c d) λc=>jY b (vb true) c λb=>jI b false λ_=>j9 b (jc a 2) λc=>Z8 b 48 [c,vi 1,vi 100] λc=>yv b (pUn .not c) λc=>QH b (vb true) c (jo (vb false)) (jiA (vi 0) (jc a 0) (jc a 1) (jc a 2)):=gq Tryz.func24
theorem joH:jiA a b c d=kLb a b (kIP 1 b a λe=>kFN 49 [e] λe=>jI e false λ_=>j9 e b λf=>j9 e a λg=>yv e (zU 1 f none (some g)) λf=>jI e false λ_=>j9 e b λg=>j9 e a λh=>yv e (jw 1 g h) λg=>yv e (yW g) λg=>Z8 e 50 [f,g] λf=>jY e (vb true) f λe=>jI e false λ_=>j9 e c λf=>j9 e a λg=>yv e (jw 1 f g) λf=>yv e (yW f) λf=>jI e false λ_=>j9 e d λg=>Z8 e 48 [f,g,vi 100] λf=>yv e (pUn .not f) λf=>QH e (vb true) f (jo (vb false)) (jN a (vi 1) λa=>jiA a b c d)) (jo (vb true)):=hq Tryz.func24
theorem g25:G 25 [a,b]=jl 3 a λa=>jl 2 b λb=>yA (jc b 0) (sv [61]) λc=>jI c true λ_=>yT c 51 [kJ b] λd=>jY c d (vb false) λc=>jI c true λ_=>jI c true λ_=>kX c (jc b 1) λd=>yS c (jw 2 d (vi 0)) λd=>yS c (zz 2 d) λd=>yT c 52 [Jy a,d] λd=>jY c d (vb false) λc=>jI c true λ_=>jI c true λ_=>kX c (jc b 1) λb=>yS c (jw 2 b (vi 1)) λb=>yS c (zz 2 b) λb=>yT c 52 [Jy a,b] λa=>jY c a (vb false) λa=>jo a:=gq Tryz.func25
theorem g26:G 26 [a,b,c]=jl 3 a λa=>jl 2 b λb=>jl 2 c λc=>kF 53 [kJ b,kJ c] λd=>kbN d (jo (vb false)) (kF 54 [Jy a,kJ b] λd=>kF 54 [Jy a,kJ c] λe=>yw d e (jf9 d e λa=>jo a) (kF 55 [jc b 0] λd=>jI d false λ_=>j9 d (jc c 0) λe=>Z8 d 55 [e] λe=>QH d (vb true) e (jo (vb false)) (kF 56 [Jy a,kJ b,kJ c] λd=>yw d (vi 0) (jf9 d (vi 0) λa=>jo a) (kF 57 [kJ b,kJ c] λd=>Yh d (vi 0) λe=>jI e true λ_=>jI e true λ_=>kX e (jc b 1) λb=>kX e d λf=>yS e (jw 2 b f) λb=>yS e (zz 2 b) λb=>jI e true λ_=>kX e (jc c 1) λc=>kX e d λd=>yS e (jw 2 c d) λc=>yS e (zz 2 c) λc=>yT e 26 [Jy a,b,c] λa=>jY e a (vb false) λa=>jo a)))):=gq Tryz.func26
theorem g27:G 27 [a]=jl 2 a λa=>brn (zL (jc a 0)) (brn (zL (jc a 0)) (jiB (vi 0) (jc a 0) (jc a 1) (sv []) (jc a 0) [] []) none) none:=gq Tryz.func27
theorem joI:jiB a b c d e p q=kLb a c (KS 2 2 c a λf=>(G 27 [f]).bind λf=>jgd f λf=>jl 2 f λf=>brn (Ji ((kZ q)+(kZ [[jc f 0,jc f 1]])) 40) (jN a (vi 1) λa=>jiB a b c d e p (Kb q [[jc f 0,jc f 1]])) none) (brn (zL e) (jo (A.agg [e,A.sl 2 q])) none):=hq Tryz.func27
theorem jqG:jkZ a=zy a λb=>kMk 16 b b λb=>ja4 a (vi 0) (Q1 b [sv []]):=vq Tryz.func28
theorem jji:ja4 a b p=kLb b a (kIP 1 a b λc=>kIx (kZ p) b λd=>brn (zL c) (kRG p d λe=>jN b (vi 1) λb=>ja4 a b (zq p d (kE e 0 [c]))) none) (some (A.top,[A.sl 1 p])):=hq Tryz.func28
theorem jqH:jk0 a=zy a λb=>kMk 8 b b λb=>ja5 a (vi 0) (Q1 b [vi 0]):=vq Tryz.func29
theorem jjj:ja5 a b p=kLb b a (kIP 1 a b λc=>kIx (kZ p) b λd=>brn (zL c) (kRG p d λe=>jN b (vi 1) λb=>ja5 a b (zq p d (kE e 0 [c]))) none) (some (A.top,[A.sl 1 p])):=hq Tryz.func29
theorem g3:G 3 [a,b]=jl 3 a λa=>jl 2 b λb=>kF 5 [Jy a,vi 1048576] λc=>jP c (vi 0) (jo (vb true)) (kF 6 [kJ b,c] λc=>jP c (vi 0) (jo (vb true)) ((jjQ (jc a 0) (jc a 1) (jc a 2)).bind λc=>KR c 0 λd=>Jo 1 c 1 λe=>Jo 1 c 2 λc=>(jc0 (jc b 0) (jc b 1)).bind λf=>KR f 0 λg=>Jo 66 f 1 λf=>(G 7 [A.agg [A.sl 1 e,A.sl 1 c,d],A.agg [g,A.sl 2 f]]).bind λc=>jgd c λc=>jb0 c 0 λd=>jb0 c 1 λe=>jb0 c 2 λc=>jl 2 d λd=>(jjQ (jc a 0) (jc a 1) (jc a 2)).bind λf=>KR f 0 λg=>Jo 1 f 1 λh=>Jo 1 f 2 λf=>brn (zL g) ((jc0 (jc b 0) (jc b 1)).bind λi=>KR i 0 λj=>Jo 66 i 1 λi=>brn (zL j) ((jiy (A.agg [A.sl 1 h,A.sl 1 f,g]) (A.agg [j,A.sl 2 i])).bind λk=>KR k 0 λl=>KR k 1 λm=>KR k 2 λn=>Jo 66 k 3 λk=>brn (kY l) (brn (kY m) (brn (kY n) (brn (zL l) (kfn true (G 11 [A.agg [l,A.sl 2 k],kJ d]) λo=>jj6 o λo=>j9 o m λp=>j9 o e λq=>yv o (jD .neq true p q) λp=>jY o (vb true) p λo=>j9 o n λp=>j9 o c λq=>yv o (jD .neq true p q) λp=>QH o (vb true) p (jo (vb false)) ((jjQ (jc a 0) (jc a 1) (jc a 2)).bind λo=>KR o 0 λp=>Jo 1 o 1 λq=>Jo 1 o 2 λo=>kfn true (G 12 [A.agg [A.sl 1 h,A.sl 1 f,g],A.agg [A.sl 1 q,A.sl 1 o,p]]) λo=>kbN o (jo (vb false)) ((jc0 (jc b 0) (jc b 1)).bind λo=>KR o 0 λp=>Jo 66 o 1 λo=>kfn true (G 11 [A.agg [j,A.sl 2 i],A.agg [p,A.sl 2 o]]) λo=>kbN o (jo (vb false)) ((jkY g (vi 1) h f).bind λf=>KR f 0 λg=>Jo 1 f 1 λ_=>Jo 1 f 2 λ_=>(jbr j g i).bind λf=>KR f 0 λg=>Jo 66 f 1 λ_=>jav g (vi 0) λf=>jI f false λ_=>jI f false λ_=>yv f ((G 11 [A.agg [l,A.sl 2 k],kJ d]).bind (fin true)) λg=>yv f (pUn .not g) λg=>jY f (vb true) g λf=>j9 f m λg=>j9 f e λh=>yv f (jD .neq true g h) λg=>jY f (vb true) g λf=>j9 f n λg=>j9 f c λh=>yv f (jD .neq true g h) λg=>QH f (vb true) g (jo (vb false)) ((jbr l (vi 1) k).bind λf=>KR f 0 λg=>Jo 66 f 1 λf=>kfn true (G 15 [A.agg [l,A.sl 2 f],vi 1]) λh=>jP h (vi 0) (jo (vb false)) (yw h g (jo (vb false)) ((jjQ (jc a 0) (jc a 1) (jc a 2)).bind λa=>KR a 0 λh=>Jo 1 a 1 λi=>Jo 1 a 2 λa=>(jc0 (jc b 0) (jc b 1)).bind λb=>KR b 0 λj=>Jo 66 b 1 λb=>(jiy (A.agg [A.sl 1 i,A.sl 1 a,h]) (A.agg [j,A.sl 2 b])).bind λa=>KR a 0 λb=>KR a 1 λh=>KR a 2 λi=>Jo 66 a 3 λa=>brn (kY b) (brn (kY h) (brn (kY i) (brn (zL b) (kfn true (G 11 [A.agg [b,A.sl 2 a],kJ d]) λa=>jj6 a λa=>j9 a h λb=>j9 a e λd=>yv a (jD .neq true b d) λb=>e_1 a b i c l f g) none) none) none) none))))))) none) none) none) none) none) none)):=gq Tryz.func3
theorem g30:G 30 [a]=jl 2 a λa=>yA (jc a 0) (sv [61]) λa=>jo a:=gq Tryz.func30
theorem g31:G 31 [a]=jl 3 a λa=>zy (jc a 0) λb=>kFN 58 [b,vi 1,vi 12] λb=>jI b false λ_=>j9 b (jc a 1) λc=>yv b (qe c) λc=>jI b false λ_=>j9 b (jc a 0) λd=>yv b (qe d) λd=>yv b (jD .neq false c d) λc=>jY b (vb true) c λb=>jI b false λ_=>j9 b (jc a 2) λc=>Z8 b 58 [c,vi 1,vi 100] λc=>yv b (pUn .not c) λc=>QH b (vb true) c (jo (vb false)) (zy (jc a 0) λb=>jiC (jc a 0) b (vi 0) (jc a 0) (jc a 1) (jc a 2)):=gq Tryz.func31
theorem joJ:jiC a b c d e f=jP c b (kIP 1 a c λg=>kFN 59 [g] λh=>jI h false λ_=>j9 h d λi=>j9 h c λj=>yv h (zU 1 i none (some j)) λi=>j9 h g λg=>Z8 h 60 [i,g] λg=>jY h (vb true) g λg=>jI g false λ_=>j9 g e λh=>j9 g c λi=>yv g (jw 1 h i) λh=>yv g (yW h) λh=>jI g false λ_=>j9 g f λi=>Z8 g 58 [h,i,vi 100] λh=>yv g (pUn .not h) λh=>QH g (vb true) h (jo (vb false)) (jN c (vi 1) λc=>jiC a b c d e f)) (jo (vb true)):=hq Tryz.func31
theorem g32:G 32 [a,b]=jl 3 a λa=>jl 2 b λb=>kF 61 [kJ b] λc=>kbN c (jo (vb false)) (kF 30 [kJ b] λc=>QI c (KS 2 2 (jc b 1) (vi 0) λc=>kF 62 [Jy a,c] λc=>jI c true λ_=>jI c true λ_=>kX c (jc b 1) λb=>yS c (jw 2 b (vi 1)) λb=>yS c (zz 2 b) λb=>yT c 62 [Jy a,b] λa=>jY c a (vb false) λa=>jo a) (kF 62 [Jy a,kJ b] λa=>jo a)):=gq Tryz.func32
theorem jqI:jdk a=jl 2 a λa=>(jk3 (jc a 1)).bind λb=>Jo 66 b 0 λb=>brn (zL (jc a 0)) (e_2 a b) none:=vq Tryz.func33
theorem g34:G 34 [a,b,c]=jl 3 a λa=>jl 2 b λb=>jl 2 c λc=>kF 65 [kJ b,kJ c] λd=>kfn true (G 64 [d,A.fn 66 [A.elt [jc a 0,jc a 1,jc a 2] 0,A.elt [jc b 0,jc b 1] 0,A.elt [jc c 0,jc c 1] 0],A.fn 68 [A.elt [jc a 0,jc a 1,jc a 2] 0,A.elt [jc c 0,jc c 1] 0,A.elt [jc b 0,jc b 1] 0]]) λa=>jo a:=gq Tryz.func34
theorem g35:G 35 [a,b]=zy a λc=>zy b λd=>yw c d (jo (vb false)) (jiD a b (vi 0)):=gq Tryz.func35
theorem joK:jiD a b c=kLb c a (kIP 1 a c λd=>kIP 1 b c λe=>yw d e (jo (vb false)) (jN c (vi 1) λc=>jiD a b c)) (jo (vb true)):=hq Tryz.func35
theorem g36:G 36 [a,b]=zy a λc=>zy b λd=>yw c d (jo (vb false)) (jiE a b (vi 0)):=gq Tryz.func36
theorem joL:jiE a b c=kLb c a (kIP 1 a c λd=>kIP 1 b c λe=>yw d e (jo (vb false)) (jN c (vi 1) λc=>jiE a b c)) (jo (vb true)):=hq Tryz.func36
theorem jqJ:jk1 a p=ja6 a (vi 0) p:=vq Tryz.func37
theorem jjk:ja6 a b p=jP b (jcp p) (kF 47 [a] λc=>kIx (kZ p) b λd=>brn (zL c) (kRG p d λe=>jN a (vi 1) λa=>jN b (vi 1) λb=>ja6 a b (zq p d (kE e 0 [c]))) none) (some (A.top,[a,A.sl 1 p])):=hq Tryz.func37
theorem jqK:jk2 a p=ja7 a (vi 0) p:=vq Tryz.func38
theorem jjl:ja7 a b p=jP b (jcp p) (kIx (kZ p) b λc=>brn (zL a) (kRG p c λd=>jN a (vi 1) λe=>jN b (vi 1) λb=>ja7 e b (zq p c (kE d 0 [a]))) none) (some (A.top,[a,A.sl 1 p])):=hq Tryz.func38
theorem g39:G 39 [a,b]=jiF a b (vi 0):=gq Tryz.func39
theorem joM:jiF a b c=kLb c a (jnF 2 a c 0 λd=>kF 47 [b] λe=>yw d e (jo (vi (- 1))) (jN b (vi 1) λb=>jnF 2 a c 1 λd=>kF 39 [d,b] λb=>jP b (vi 0) (jo (vi (- 1))) (jN c (vi 1) λc=>jiF a b c))) (jo b):=hq Tryz.func39
theorem g4:G 4 [a,b]=jl 2 a λa=>kF 6 [kJ a,vi 1048576] λc=>jP c (vi 0) (jo (vb true)) (kF 16 [b,c] λc=>jP c (vi 0) (jo (vb true)) ((jc0 (jc a 0) (jc a 1)).bind λc=>KR c 0 λd=>Jo 66 c 1 λc=>(Zg b).bind λe=>Jo 66 e 0 λe=>(G 17 [A.agg [d,A.sl 2 c],A.sl 2 e]).bind λc=>jgd c λc=>jb0 c 0 λd=>jb0 c 1 λe=>jb0 c 2 λc=>jl 2 d λd=>(jc0 (jc a 0) (jc a 1)).bind λf=>KR f 0 λg=>Jo 66 f 1 λf=>brn (zL g) ((Zg b).bind λh=>Jo 66 h 0 λh=>(jor (A.agg [g,A.sl 2 f]) (A.sl 2 h)).bind λi=>KR i 0 λj=>KR i 1 λk=>KR i 2 λl=>Jo 66 i 3 λi=>brn (kY j) (brn (kY k) (brn (kY l) (brn (zL j) (kfn true (G 11 [A.agg [j,A.sl 2 i],kJ d]) λm=>jj6 m λm=>j9 m k λn=>j9 m e λo=>yv m (jD .neq false n o) λn=>jY m (vb true) n λm=>j9 m l λn=>j9 m c λo=>yv m (jD .neq true n o) λn=>QH m (vb true) n (jo (vb false)) ((jc0 (jc a 0) (jc a 1)).bind λm=>KR m 0 λn=>Jo 66 m 1 λm=>kfn true (G 11 [A.agg [g,A.sl 2 f],A.agg [n,A.sl 2 m]]) λm=>kbN m (jo (vb false)) ((Zg b).bind λm=>Jo 66 m 0 λm=>kfn true (G 20 [A.sl 2 h,A.sl 2 m]) λm=>kbN m (jo (vb false)) ((jbr g (vi 1) f).bind λf=>KR f 0 λg=>Jo 66 f 1 λ_=>(jbs g h).bind λf=>KR f 0 λg=>Jo 66 f 1 λ_=>jav g (vi 0) λf=>jI f false λ_=>jI f false λ_=>yv f ((G 11 [A.agg [j,A.sl 2 i],kJ d]).bind (fin true)) λg=>yv f (pUn .not g) λg=>jY f (vb true) g λf=>j9 f k λg=>j9 f e λh=>yv f (jD .neq false g h) λg=>jY f (vb true) g λf=>j9 f l λg=>j9 f c λh=>yv f (jD .neq true g h) λg=>QH f (vb true) g (jo (vb false)) ((jbr j (vi 1) i).bind λf=>KR f 0 λg=>Jo 66 f 1 λf=>kfn true (G 15 [A.agg [j,A.sl 2 f],vi 1]) λh=>jP h (vi 0) (jo (vb false)) (yw h g (jo (vb false)) ((jc0 (jc a 0) (jc a 1)).bind λa=>KR a 0 λh=>Jo 66 a 1 λa=>(Zg b).bind λb=>Jo 66 b 0 λb=>(jor (A.agg [h,A.sl 2 a]) (A.sl 2 b)).bind λa=>KR a 0 λb=>KR a 1 λh=>KR a 2 λi=>Jo 66 a 3 λa=>brn (kY b) (brn (kY h) (brn (kY i) (brn (zL b) (kfn true (G 11 [A.agg [b,A.sl 2 a],kJ d]) λa=>jj6 a λa=>j9 a h λb=>j9 a e λd=>yv a (jD .neq false b d) λb=>e_1 a b i c j f g) none) none) none) none))))))) none) none) none) none) none)):=gq Tryz.func4
theorem g47:G 47 [a]=jhE a (vi 0) (jo (sv [109,48])) (jiG a (sv [])):=gq Tryz.func47
theorem joN:jiG a b=Yv a (vi 0) ((jD .rem false a (vi 10)).bind λc=>jN (vi 48) c λc=>(jgB .u8 c).bind λc=>brn (zL c) ((YC (A.sl 1 [[c]])).bind λc=>jN c b λb=>jlN a (vi 10) λa=>jiG a b) none) (jN (sv [109]) b λa=>jo a):=hq Tryz.func47
theorem g48:G 48 [a,b,c]=e_3 a b c:=gq Tryz.func48
theorem g49:G 49 [a]=kLS a λb=>kFN 48 [b,vi 1,vi 6] λb=>j9 b a λc=>yv b (k9 c (vi 0)) λc=>yv b (jD .lss false c (vy 97)) λc=>jY b (vb true) c λb=>j9 b a λc=>yv b (k9 c (vi 0)) λc=>yv b (jD .gtr false c (vy 122)) λc=>QH b (vb true) c (jo (vb false)) (yA a (sv [116,114,117,101]) λb=>QI b (QI b (jo (vb false)) (Kj a (vi 1))) (yA a (sv [102,97,108,115,101]) λb=>QI b (QI b (jo (vb false)) (Kj a (vi 1))) (yA a (sv [116,114,117,116,104]) λb=>QI b (QI b (jo (vb false)) (Kj a (vi 1))) (yA a (sv [98,111,116,104]) λb=>QI b (QI b (jo (vb false)) (Kj a (vi 1))) (yA a (sv [101,105,116,104,101,114]) λb=>QI b (QI b (jo (vb false)) (Kj a (vi 1))) (yA a (sv [105,102]) λb=>QI b (QI b (jo (vb false)) (Kj a (vi 1))) (yA a (sv [97,108,108]) λb=>QI b (QI b (jo (vb false)) (Kj a (vi 1))) (qR a (sv [115,111,109,101]) (jo (vb false)) (Kj a (vi 1)))))))))):=gq Tryz.func49
theorem joO:Kj a b=kLS a λc=>jP b c (kIS a b λc=>kFN 79 [c] λc=>kX c a λd=>kX c b λe=>yS c (k9 d e) λd=>yS c (jD .neq false d (vy 95)) λd=>QH c d (vb false) (jo (vb false)) (jN b (vi 1) λb=>Kj a b)) (jo (vb true)):=hq Tryz.func49
theorem g5:G 5 [a,b]=jl 3 a λa=>kF 22 [jc a 0,b] λb=>jP b (vi 0) (jo (vi (- 1))) (kF 23 [jc a 1,b] λa=>jP a (vi 0) (jo (vi (- 1))) (jo a)):=gq Tryz.func5
theorem g50:G 50 [a,b]=jiH a b (vi 0):=gq Tryz.func50
theorem joP:jiH a b c=kLb c a (kIP 1 a c λd=>qR d b (jo (vb true)) (jN c (vi 1) λc=>jiH a b c)) (jo (vb false)):=hq Tryz.func50
theorem g51:G 51 [a]=jl 2 a λa=>qR (jc a 0) (sv [61]) (zy (jc a 1) λb=>yA b (vi 2) λb=>jI b true λ_=>yT b 71 [kJ a] λc=>jY b c (vb false) λb=>jI b true λ_=>kX b (jc a 1) λc=>yS b (jw 2 c (vi 0)) λc=>yS b (zz 2 c) λc=>yT b 72 [c] λc=>jY b c (vb false) λb=>jI b true λ_=>kX b (jc a 1) λa=>yS b (jw 2 a (vi 1)) λa=>yS b (zz 2 a) λa=>yT b 72 [a] λa=>jY b a (vb false) λa=>jo a) (kF 49 [jc a 0] λb=>jI b true λ_=>yT b 43 [kJ a] λa=>jY b a (vb false) λa=>jo a):=gq Tryz.func51
theorem g52:G 52 [a,b]=jl 3 a λa=>jl 2 b λb=>kFN 55 [jc b 0] λc=>jI c true λ_=>jI c true λ_=>kX c (jc b 0) λd=>yT c 80 [Jy a,d] λd=>yS c (jD .lss false d (vi 0)) λd=>QH c d (vb false) (jo (vb false)) (jiI (vi 0) (jc a 0) (jc a 1) (jc a 2) (jc b 0) (jc b 1)):=gq Tryz.func52
theorem joQ:jiI a b c d e f=kLb a f (KS 2 2 f a λg=>kF 52 [A.agg [b,c,d],g] λg=>kbN g (jo (vb false)) (jN a (vi 1) λa=>jiI a b c d e f)) (jo (vb true)):=hq Tryz.func52
theorem g53:G 53 [a,b]=jl 2 a λa=>jl 2 b λb=>kF 81 [kJ b] λc=>jiJ c (vi 0) (jc a 0) (jc a 1) (jc b 0) (jc b 1):=gq Tryz.func53
theorem joR:jiJ a b c d e f=kLb b a (kIP 1 a b λg=>kF 82 [A.agg [c,d],g] λg=>kIP 1 a b λh=>kF 82 [A.agg [e,f],h] λh=>jP g h (jo (vb false)) (jN b (vi 1) λb=>jiJ a b c d e f)) (jo (vb true)):=hq Tryz.func53
theorem g54:G 54 [a,b]=jl 3 a λa=>jl 2 b λb=>kF 55 [jc b 0] λc=>kbN c (kF 80 [Jy a,jc b 0] λc=>kIP 1 (jc a 1) c λc=>jfz c (vi 0) (jc a 0) (jc a 1) (jc a 2) (jc b 0) (jc b 1)) (jfz (jc a 2) (vi 0) (jc a 0) (jc a 1) (jc a 2) (jc b 0) (jc b 1)):=gq Tryz.func54
theorem joS:jfz a b c d e f g=kLb b g (KS 2 2 g b λh=>kF 54 [A.agg [c,d,e],h] λh=>jN a h λa=>jN b (vi 1) λb=>jfz a b c d e f g) (jo a):=hq Tryz.func54
theorem g55:G 55 [a]=kLS a λb=>kFN 48 [b,vi 1,vi 4] λb=>j9 b a λc=>yv b (k9 c (vi 0)) λc=>yv b (jD .lss false c (vy 65)) λc=>jY b (vb true) c λb=>j9 b a λc=>yv b (k9 c (vi 0)) λc=>yv b (jD .gtr false c (vy 90)) λc=>QH b (vb true) c (jo (vb false)) (jdm a (vi 1)):=gq Tryz.func55
theorem joT:jdm a b=kLS a λc=>jP b c (kIS a b λc=>kF 79 [c] λc=>kbN c (jo (vb false)) (jN b (vi 1) λb=>jdm a b)) (jo (vb true)):=hq Tryz.func55
theorem g56:G 56 [a,b,c]=jl 3 a λa=>jl 2 b λb=>jl 2 c λc=>kF 80 [Jy a,jc b 0] λd=>kF 80 [Jy a,jc c 0] λa=>qR d a (zy (jc b 1) λa=>zy (jc c 1) λb=>jP a b (jo (vi (- 1))) (Yv a b (jo (vi 1)) (jo (vi 0)))) (jP d a (jo (vi (- 1))) (Yv d a (jo (vi 1)) (jo (vi 0)))):=gq Tryz.func56
theorem g57:G 57 [a,b]=jl 2 a λa=>jl 2 b λb=>jfA (vi 0) (jc a 0) (jc a 1) (jc b 0) (jc b 1):=gq Tryz.func57
theorem joU:jfA a b c d e=kLb a c (KS 2 2 c a λf=>KS 2 2 e a λg=>kF 83 [f,g] λf=>kbN f (jo a) (jN a (vi 1) λa=>jfA a b c d e)) (jo (vi (- 1))):=hq Tryz.func57
theorem g58:G 58 [a,b,c]=e_3 a b c:=gq Tryz.func58
theorem g59:G 59 [a]=kLS a λb=>jfB a b (vi 0):=gq Tryz.func59
theorem jjm:jfB a b c=jP c b (yA c (vi 0) λd=>kX d a λe=>kX d c λf=>yS d (k9 e f) λe=>yT d 84 [e] λe=>yS d (pUn .not e) λe=>jY d e (vb false) λd=>j9 d a λe=>j9 d c λf=>yv d (k9 e f) λe=>Z8 d 84 [e] λe=>yv d (pUn .not e) λe=>j9 d e λe=>kX e a λf=>kX e c λg=>yS e (k9 f g) λf=>yT e 85 [f] λf=>yS e (pUn .not f) λf=>yv d (Zb e f (vb false)) λe=>j9 d e λe=>kX e a λf=>kX e c λg=>yS e (k9 f g) λf=>yS e (jD .neq false f (vy 95)) λf=>yv d (Zb e f (vb false)) λe=>QH d (vb true) e (jo (vb false)) (jN c (vi 1) λc=>jfB a b c)) (kLS a λb=>kF 58 [b,vi 1,vi 6] λb=>yT b 86 [] λc=>kX b a λa=>yT b 60 [c,a] λa=>yS b (pUn .not a) λa=>jY b a (vb false) λa=>jo a):=hq Tryz.func59
theorem g6:G 6 [a,b]=jl 2 a λa=>kLS (jc a 0) λc=>jaw b c λb=>jP b (vi 0) (jo (vi (- 1))) (kF 16 [jc a 1,b] λa=>jP a (vi 0) (jo (vi (- 1))) (jo a)):=gq Tryz.func6
theorem g60:G 60 [a,b]=kF 87 [a,b] λa=>Yh a (vi 0) λa=>jo a:=gq Tryz.func60
theorem g61:G 61 [a]=jl 2 a λa=>kF 30 [kJ a] λb=>QI b (zy (jc a 1) λb=>yA b (vi 2) λb=>jI b true λ_=>yT b 78 [kJ a] λc=>jY b c (vb false) λb=>jI b true λ_=>kX b (jc a 1) λc=>yS b (jw 2 c (vi 0)) λc=>yS b (zz 2 c) λc=>yT b 88 [c] λc=>jY b c (vb false) λb=>jI b true λ_=>kX b (jc a 1) λa=>yS b (jw 2 a (vi 1)) λa=>yS b (zz 2 a) λa=>yT b 88 [a] λa=>jY b a (vb false) λa=>jo a) (kF 59 [jc a 0] λb=>jI b true λ_=>yT b 73 [kJ a] λa=>jY b a (vb false) λa=>jo a):=gq Tryz.func61
theorem g62:G 62 [a,b]=jl 3 a λa=>jl 2 b λb=>kF 89 [kJ b] λc=>jI c false λ_=>j9 c (jc a 0) λd=>jI c false λ_=>j9 c (jc b 0) λe=>Z8 c 60 [d,e] λd=>jY c (vb true) d λc=>jI c true λ_=>kX c (jc b 1) λb=>jI c true λ_=>yS c ((G 74 [b,A.fn 90 [A.elt [jc a 0,jc a 1,jc a 2] 0]]).bind (fin true)) λa=>yS c (pUn .not a) λa=>jY c a (vb false) λa=>jo a:=gq Tryz.func62
theorem joy:jk3 a=zy a λb=>qR b (vi 0) (some (A.top,[A.sl 66 []])) (zy a λb=>kMk 40 b b λb=>zy a λc=>ja8 a c (vi 0) (Q1 b [sv [],A.sl 2 []])):=vq Tryz.func63
theorem jjn:ja8 a b c p=jP c b (KS 2 2 a c λd=>jl 2 d λd=>(jdk (kJ d)).bind λd=>KR d 0 λe=>Jo 66 d 1 λd=>brn (kY e) (kIx (kZ p) c λf=>brn (zL e) (brn (kU e) (kRG p f λg=>jN c (vi 1) λc=>ja8 a b c (zq p f (kE g 0 [e,A.sl 2 d]))) none) none) none) (some (A.top,[A.sl 66 p])):=hq Tryz.func63
theorem g64:G 64 [a,b,c]=QI a (jo (vi 1)) ((DX.run K (MM K) (.callc b [] false)).bind λa=>QI a (jo (vi 2)) ((DX.run K (MM K) (.callc c [] false)).bind λa=>QI a (jo (vi 3)) (jo (vi 0)))):=gq Tryz.func64
theorem g65:G 65 [a,b]=jl 2 a λa=>jl 2 b λb=>yA (jc a 0) (jc b 0) λc=>jI c true λ_=>kX c (jc a 1) λa=>jI c true λ_=>kX c (jc b 1) λb=>yT c 91 [a,b,A.fn 65 []] λa=>jY c a (vb false) λa=>jo a:=gq Tryz.func65
theorem g66:G 66 [a,b,c]=kLN 3 a λa=>kLN 2 b λb=>kLN 2 c λc=>kF 67 [a,b,c] λa=>jo a:=gq Tryz.func66
theorem g67:G 67 [a,b,c]=jl 3 a λa=>jl 2 b λb=>jl 2 c λc=>kF 92 [kJ c] λd=>zy d λe=>jfC d e (vi 0) (jc a 0) (jc a 1) (jc a 2) (jc b 0) (jc b 1) (jc c 0) (jc c 1):=gq Tryz.func67
theorem joV:jfC a b c d e f g h i j=jP c b (kIP 1 a c λk=>kF 93 [A.agg [g,h],k] λl=>kF 93 [A.agg [i,j],k] λk=>jP l k (jo (vb false)) (jN c (vi 1) λc=>jfC a b c d e f g h i j)) (kF 94 [A.agg [d,e,f],A.agg [g,h]] λa=>kF 94 [A.agg [d,e,f],A.agg [i,j]] λb=>jga a b λc=>jI c false λ_=>Z8 c 89 [A.agg [g,h]] λk=>jY c (vb true) k λc=>jI c false λ_=>Z8 c 89 [A.agg [i,j]] λk=>QH c (vb true) k (jf9 a b λa=>jo a) (kF 95 [A.agg [d,e,f],A.agg [i,j],A.agg [g,h]] λa=>QI a (jo (vb true)) (kF 96 [A.agg [g,h],A.agg [i,j]] λa=>jb0 a 0 λb=>jb0 a 1 λc=>jb0 a 2 λa=>jl 2 b λb=>jl 2 c λc=>jI a true λ_=>jI a true λ_=>jI a true λ_=>yT a 67 [A.agg [d,e,f],kJ b,kJ c] λb=>jY a b (vb false) λa=>jo a))):=hq Tryz.func67
theorem g68:G 68 [a,b,c]=kLN 3 a λa=>kLN 2 b λb=>kLN 2 c λc=>kF 67 [a,b,c] λa=>jo a:=gq Tryz.func68
theorem g7:G 7 [a,b]=jl 3 a λa=>jl 2 b λb=>kFN 24 [Jy a] λc=>jI c false λ_=>jI c false λ_=>Z8 c 25 [Jy a,kJ b] λd=>yv c (pUn .not d) λd=>QH c (vb true) d (jo (A.tup [A.agg [sv [],A.sl 2 []],vb false,vb false])) (KS 2 2 (jc b 1) (vi 1) λc=>KS 2 2 (jc b 1) (vi 0) λd=>kF 26 [Jy a,c,d] λc=>QI c (KS 2 2 (jc b 1) (vi 1) λa=>(G 27 [a]).bind λa=>jgd a λa=>KS 2 2 (jc b 1) (vi 0) λb=>(G 27 [b]).bind λb=>jgd b λb=>jl 2 a λa=>jl 2 b λb=>jo (A.tup [A.agg [sv [61],A.sl 2 [[jc a 0,jc a 1],[jc b 0,jc b 1]]],vb true,vb true])) ((G 27 [kJ b]).bind λc=>jgd c λc=>KS 2 2 (jc b 1) (vi 0) λd=>KS 2 2 (jc b 1) (vi 1) λb=>kF 26 [Jy a,d,b] λa=>jl 2 c λb=>jo (A.tup [kJ b,a,vb true]))):=gq Tryz.func7
theorem g71:G 71 [a]=jl 2 a λa=>kF 104 [kJ a,vi 30] λb=>jjd b (vi 30) λb=>jI b true λ_=>yT b 105 [kJ a] λa=>yS b (jD .leq false a (vi 8)) λa=>jY b a (vb false) λa=>jo a:=gq Tryz.func71
theorem g72:G 72 [a]=jl 2 a λa=>kF 55 [jc a 0] λb=>QI b (zy (jc a 1) λa=>yA a (vi 0) λa=>jo a) (kFN 49 [jc a 0] λb=>jI b false λ_=>j9 b (jc a 1) λc=>yv b (qe c) λc=>yv b (jD .gtr false c (vi 4)) λc=>QH b (vb true) c (jo (vb false)) (jiK (vi 0) (jc a 0) (jc a 1))):=gq Tryz.func72
theorem joW:jiK a b c=kLb a c (KS 2 2 c a λd=>kF 72 [d] λd=>kbN d (jo (vb false)) (jN a (vi 1) λa=>jiK a b c)) (jo (vb true)):=hq Tryz.func72
theorem g74:G 74 [a,b]=kF 106 [a,b] λa=>Yh a (vi 0) λa=>jo a:=gq Tryz.func74
theorem g78:G 78 [a]=jl 2 a λa=>kF 110 [kJ a] λb=>jjd b (vi 30) λb=>jI b true λ_=>yT b 111 [kJ a] λa=>yS b (jD .leq false a (vi 8)) λa=>jY b a (vb false) λa=>jo a:=gq Tryz.func78
theorem g79:G 79 [a]=Yh a (vy 97) λb=>kX b a λc=>yS b (jD .leq false c (vy 122)) λc=>jY b c (vb false) λb=>j9 b a λc=>yv b (jD .geq false c (vy 48)) λc=>j9 b c λc=>kX c a λa=>yS c (jD .leq false a (vy 57)) λa=>yv b (Zb c a (vb false)) λa=>jY b (vb true) a λa=>jo a:=gq Tryz.func79
theorem g80:G 80 [a,b]=jl 3 a λa=>jiL b (vi 0) (jc a 0) (jc a 1) (jc a 2):=gq Tryz.func80
theorem joX:jiL a b c d e=kLb b c (kIP 1 c b λf=>qR f a (jo b) (jN b (vi 1) λb=>jiL a b c d e)) (jo (vi (- 1))):=hq Tryz.func80
theorem g81:G 81 [a]=jl 2 a λa=>kF 112 [A.sl 1 [],kJ a] λa=>jo a:=gq Tryz.func81
theorem g82:G 82 [a,b]=jl 2 a λa=>qR (jc a 0) b (jfD b (vi 1) (vi 0) (jc a 0) (jc a 1)) (jfD b (vi 0) (vi 0) (jc a 0) (jc a 1)):=gq Tryz.func82
theorem joY:jfD a b c d e=kLb c e (KS 2 2 e c λf=>kF 82 [f,a] λf=>jN b f λb=>jN c (vi 1) λc=>jfD a b c d e) (jo b):=hq Tryz.func82
theorem g83:G 83 [a,b]=jl 2 a λa=>jl 2 b λb=>jga (jc a 0) (jc b 0) λc=>jI c false λ_=>j9 c (jc a 1) λd=>yv c (qe d) λd=>jI c false λ_=>j9 c (jc b 1) λe=>yv c (qe e) λe=>yv c (jD .neq false d e) λd=>QH c (vb true) d (jo (vb false)) (jiM (vi 0) (jc a 0) (jc a 1) (jc b 0) (jc b 1)):=gq Tryz.func83
theorem joZ:jiM a b c d e=kLb a c (KS 2 2 c a λf=>KS 2 2 e a λg=>kF 83 [f,g] λf=>kbN f (jo (vb false)) (jN a (vi 1) λa=>jiM a b c d e)) (jo (vb true)):=hq Tryz.func83
theorem g84:G 84 [a]=Yh a (vy 97) λb=>kX b a λa=>yS b (jD .leq false a (vy 122)) λa=>jY b a (vb false) λa=>jo a:=gq Tryz.func84
theorem g85:G 85 [a]=Yh a (vy 48) λb=>kX b a λa=>yS b (jD .leq false a (vy 57)) λa=>jY b a (vb false) λa=>jo a:=gq Tryz.func85
theorem g86:G 86 []=jo (A.sl 1 [[sv [116,114,117,101]],[sv [102,97,108,115,101]],[sv [116,114,117,116,104]],[sv [98,111,116,104]],[sv [101,105,116,104,101,114]],[sv [105,102]],[sv [97,108,108]],[sv [115,111,109,101]]]):=gq Tryz.func86
theorem g87:G 87 [a,b]=zy a λc=>jiN a b c (vi 0):=gq Tryz.func87
theorem jo0:jiN a b c d=jP d c (kIP 1 a d λe=>qR b e (jo d) (jN d (vi 1) λd=>jiN a b c d)) (jo (vi (- 1))):=hq Tryz.func87
theorem g88:G 88 [a]=jl 2 a λa=>kF 113 [jc a 0] λb=>QI b (zy (jc a 1) λa=>yA a (vi 0) λa=>jo a) (kF 59 [jc a 0] λb=>jI b true λ_=>kX b (jc a 1) λc=>yS b (qe c) λc=>yS b (jD .leq false c (vi 4)) λc=>jY b c (vb false) λb=>jI b true λ_=>kX b (jc a 1) λa=>yT b 74 [a,A.fn 114 []] λa=>yS b (pUn .not a) λa=>jY b a (vb false) λa=>jo a):=gq Tryz.func88
theorem g89:G 89 [a]=jl 2 a λa=>kIS (jc a 0) (vi 0) λa=>kF 115 [a] λa=>jo a:=gq Tryz.func89
theorem jrV:jjQ a b c=brn (zL a) (brn (zL b) (brn (zL c) ((jkZ a).bind λa=>Jo 1 a 0 λa=>(jk0 b).bind λb=>Jo 1 b 0 λb=>brn (zL c) (brn (zL c) (some (A.top,[c,A.sl 1 a,A.sl 1 b])) none) none) none) none) none:=vq Tryz.func8
theorem g90:G 90 [a,b]=jl 2 a λa=>kLN 3 b λb=>kFN 62 [b,kJ a] λa=>jo a:=gq Tryz.func90
theorem g91:G 91 [a,b,c]=zy a λd=>zy b λe=>yw d e (jo (vb false)) (zy a λd=>jiO b c a d (vi 0)):=gq Tryz.func91
theorem jo1:jiO a b c d e=jP e d (KS 2 2 c e λf=>jl 2 f λf=>KS 2 2 a e λg=>jl 2 g λg=>(DX.run K (MM K) (.callc b [kJ f,kJ g] false)).bind λf=>kbN f (jo (vb false)) (jN e (vi 1) λe=>jiO a b c d e)) (jo (vb true)):=hq Tryz.func91
theorem g92:G 92 [a]=jl 2 a λa=>(QJ (jc a 0) (jc a 1) []).bind λa=>Jo 1 a 0 λa=>(jhg a).bind λa=>Jo 1 a 0 λa=>jo (A.sl 1 a):=gq Tryz.func92
theorem g93:G 93 [a,b]=jl 2 a λa=>qR (jc a 0) b (zy (jc a 1) λc=>jfE b (vi 1) (jc a 1) c (vi 0)) (zy (jc a 1) λc=>jfE b (vi 0) (jc a 1) c (vi 0)):=gq Tryz.func93
theorem jo2:jfE a b c d e=jP e d (KS 2 2 c e λf=>jl 2 f λf=>kF 93 [kJ f,a] λf=>jN b f λb=>jN e (vi 1) λe=>jfE a b c d e) (jo b):=hq Tryz.func93
theorem g94:G 94 [a,b]=jl 3 a λa=>jl 2 b λb=>kF 89 [kJ b] λc=>QI c (jo (jc a 2)) (kF 87 [jc a 0,jc b 0] λc=>kIP 1 (jc a 1) c λc=>zy (jc b 1) λd=>jiP c (jc b 1) d (vi 0) (jc a 0) (jc a 1) (jc a 2)):=gq Tryz.func94
theorem jo3:jiP a b c d e f g=jP d c (KS 2 2 b d λh=>jl 2 h λh=>kF 94 [A.agg [e,f,g],kJ h] λh=>jN a h λa=>jN d (vi 1) λd=>jiP a b c d e f g) (jo a):=hq Tryz.func94
theorem g95:G 95 [a,b,c]=jl 3 a λa=>jl 2 b λb=>jl 2 c λc=>kF 87 [jc a 0,jc b 0] λd=>kF 87 [jc a 0,jc c 0] λa=>jav d a λe=>j9 e d λd=>j9 e a λa=>yv e (jD .eql false d a) λa=>j9 e a λa=>jI a true λ_=>kX a (jc b 1) λb=>yS a (qe b) λb=>jI a true λ_=>kX a (jc c 1) λc=>yS a (qe c) λc=>yS a (jD .lss false b c) λb=>yv e (Zb a b (vb false)) λa=>jY e (vb true) a λa=>jo a:=gq Tryz.func95
theorem g96:G 96 [a,b]=jl 2 a λa=>jl 2 b λb=>jga (jc a 0) (jc b 0) λc=>jI c false λ_=>j9 c (jc a 1) λd=>yv c (qe d) λd=>jI c false λ_=>j9 c (jc b 1) λe=>yv c (qe e) λe=>yv c (jD .neq false d e) λd=>QH c (vb true) d (jo (A.tup [A.agg [sv [],A.sl 2 []],A.agg [sv [],A.sl 2 []],vb false])) (zy (jc a 1) λc=>jiQ (jc a 1) c (vi 0) (jc b 0) (jc b 1) (sv []) (sv []) [] []):=gq Tryz.func96
theorem jo4:jiQ a b c d e f g p q=jP c b (KS 2 2 a c λh=>jl 2 h λh=>KS 2 2 e c λi=>kF 65 [kJ h,i] λi=>kbN i (KS 2 2 e c λa=>brn (zL (jc h 0)) (brn (zL (jc h 1)) (jl 2 a λa=>jo (A.tup [kJ h,kJ a,vb true])) none) none) (jN c (vi 1) λc=>jiQ a b c d e f g p q)) (jo (A.tup [A.agg [sv [],A.sl 2 []],A.agg [sv [],A.sl 2 []],vb false])):=hq Tryz.func96
theorem jrW:jc0 a b=brn (zL a) (brn (zL b) (brn (zL a) ((Zg b).bind λb=>Jo 66 b 0 λb=>brn (zL a) (some (A.top,[a,A.sl 66 b])) none) none) none) none:=vq Tryz.func9
theorem jrX:jnb a=jl 2 a λa=>brn (zL (jc a 0)) ((Zg (jc a 1)).bind λb=>Jo 66 b 0 λb=>e_2 a b) none:=vq Tryz.func9
end
end
end Go.Proofs.YtjbkclajpheekaaGreat
