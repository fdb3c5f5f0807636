/- Pq -/
import Derived.Test.YteoaojbmnibpcaaGreatDoorKt
import Derived.KernelRfl
set_option linter.unusedVariables false
namespace Go.Proofs.YteoaojbmnibpcaaGreatDoor
open Go Go.RowKit Go.Proofs.YteoaojbmnibpcaaGreatDoor.Abs
set_option linter.unusedSimpArgs false
set_option linter.unusedVariables false
noncomputable section
def vT:V:=V.top
def vD(a:A):V:=V.d a
def vP(i:Nat):V:=V.ptr i 0
def vR(i:Nat):V:=V.row i
def tp(n:Nat):Xj:=List.replicate n vT
def pth:Nat->Nat->Xf
 |0,_=>[]
 |k+1,n=>if Nat.ble n 1 then[]else pth k (n/10)++[n%10]
def hs(sh:Option Xf)(f p:Nat)(l:Xj)(n:Nat)(ob:List Abs.Obj):Xe:=MM K (.head f (pth 60 p) (l++tp n) ob sh)
def hd(f p:Nat)(l:Xj)(n:Nat)(ob:List Abs.Obj):Xe:=hs none f p l n ob
theorem gq{f:FuncId}{fn:Func}{l:Xd}{r:Xe}(h3:Tryz.prog.funcs[f]? = some fn)(h2:K.pureF f=true:=by exact rfl)(h4:fn.body.isSome=true:=by exact rfl)(h5:Nat.ble l.length fn.ntmps=true:=by exact rfl)(h1:K.ext f=none:=by exact rfl)(e:evC K (MM K) f (codeOf fn) [] (Kz fn l) (qB K f fn)=r:=by kernel_rfl):G f l=r:=(jvE h2 h3 h4 h5 h1).trans e
theorem vq{f:FuncId}{fn:Func}{l:Xj}{ob:List Abs.Obj}{r:Xe}(h3:Tryz.prog.funcs[f]? = some fn)(h1:K.extv f=none:=by exact rfl)(h4:fn.body.isSome=true:=by exact rfl)(h5:Nat.ble l.length fn.ntmps=true:=by exact rfl)(e:evC K (MM K) f (codeOf fn) [] (YO fn l ob) (qB K f fn)=r:=by kernel_rfl):MM K (.callv f l ob)=r:=(jvK h1 h3 h4 h5).trans e
theorem hq{f:FuncId}{fn:Func}{p:Xf}{l:Xj}{ob:List Abs.Obj}{sh:Option Xf}{r:Xe}(h3:Tryz.prog.funcs[f]? = some fn)(h4:fn.body.isSome=true:=by exact rfl)(e:evAt K (MM K) f (codeOf fn) p [] (St.of fn.ntmps l ob sh) (qB K f fn)=r:=by kernel_rfl):MM K (.head f p l ob sh)=r:=(jvG h3 h4).trans e
section
variable{B:Type}
def jv(n:Nat)(a:A)(k0:Xd->Option B):Option B:=(jcM n a).bind k0
def kIA(k:Nat)(x i:A)(k0:A->Option B):Option B:=(ji k x i).bind k0
def jad(t:A)(n:Nat)(k0:A->Option B):Option B:=(jcP t n).bind k0
def jS(t x y:A)(k0:A->Option B):Option B:=(yF t x y).bind k0
def jA(t:A)(w:Bool)(k0:Bool->Option B):Option B:=(qx t w).bind k0
def zf(l:A)(k0:A->Option B):Option B:=(Qz l).bind k0
def jqs(a:A)(n:Nat)(k0:A->Option B):Option B:=(Z6 a n).bind k0
def j9(t x:A)(k0:A->Option B):Option B:=(pG t true (some x)).bind k0
def kh(t x:A)(k0:A->Option B):Option B:=(pG t false (some x)).bind k0
def zN(t:A)(x:Xl)(k0:A->Option B):Option B:=(pG t true x).bind k0
def zz(t:A)(x:Xl)(k0:A->Option B):Option B:=(pG t false x).bind k0
def yz(t:A)(n:Nat)(l:Xd)(k0:A->Option B):Option B:=(pG t true ((G n l).bind (fin false))).bind k0
def Qn(t:A)(n:Nat)(l:Xd)(k0:A->Option B):Option B:=(pG t false ((G n l).bind (fin false))).bind k0
def kF(n:Nat)(l:Xd)(k0:A->Option B):Option B:=((G n l).bind (fin false)).bind k0
def kfn(b:Bool)(x:Xe)(k0:A->Option B):Option B:=(x.bind (fin b)).bind k0
def Yy(x:A)(k0:A->Option B):Option B:=(JA .not x).bind k0
def kK(o:Out)(i:Nat)(k0:A->Option B):Option B:=(hD o i).bind k0
def YS(k:Nat)(o:Out)(i:Nat)(k0:Xc->Option B):Option B:=(hR k o i).bind k0
def kIx(n:Nat)(i:A)(k0:Nat->Option B):Option B:=(pIx n i).bind k0
def kRG(l:Xc)(i:Nat)(k0:Xd->Option B):Option B:=(jbh l i).bind k0
def kIS(a i:A)(k0:A->Option B):Option B:=(jK a i).bind k0
def kRs(k:Nat)(a:A)(k0:Xc->Option B):Option B:=(Jh k a).bind k0
def Za(a:A)(k0:A->Option B):Option B:=(J3 a).bind k0
def jp(x y:A)(k0:A->Option B):Option B:=(jw .add false x y).bind k0
def yj(x y:A)(k0:A->Option B):Option B:=(jw .eql false x y).bind k0
def Zb(x y:A)(k0:A->Option B):Option B:=(jw .geq false x y).bind k0
def job(x y:A)(k0:A->Option B):Option B:=(jw .gtr false x y).bind k0
def jco(x y:A)(k0:A->Option B):Option B:=(jw .leq false x y).bind k0
def jaS(x y:A)(k0:A->Option B):Option B:=(jw .lss false x y).bind k0
def joc(x y:A)(k0:A->Option B):Option B:=(jw .mul false x y).bind k0
def jeb(x y:A)(k0:A->Option B):Option B:=(jw .neq false x y).bind k0
def jkU(x y:A)(k0:A->Option B):Option B:=(jw .quo false x y).bind k0
def jhD(x y:A)(k0:A->Option B):Option B:=(jw .sub false x y).bind k0
def Ka(t:A)(X Y:Option B):Option B:=(zD t).bind λu=>brn u X Y
def KI(c x y:A)(X Y:Option B):Option B:=(yF c x y).bind λt=>(zD t).bind λu=>brn u X Y
def kbN(x:A)(X Y:Option B):Option B:=(JA .not x).bind λt=>(zD t).bind λu=>brn u X Y
def kLb(i l:A)(X Y:Option B):Option B:=(Qz l).bind λn=>(jw .lss false i n).bind λt=>(zD t).bind λu=>brn u X Y
def kF2(n:Nat)(l:Xd)(k:A->A->Option B):Option B:=((G n l).bind (fin false)).bind λt=>(jcP t 0).bind λa=>(jcP t 1).bind λb=>k a b
def kFN(n:Nat)(l:Xd)(k:A->Option B):Option B:=((G n l).bind (fin false)).bind λt=>(JA .not t).bind k
def kAP(a:A)(m:Nat)(k:A->Option B):Option B:=(Z6 a m).bind λt=>(zI t).bind k
def YT(n m:Nat)(x i:A)(k:A->Option B):Option B:=(ji m x i).bind λt=>(zX n t).bind k
def kIP(m:Nat)(x i:A)(k:A->Option B):Option B:=(ji m x i).bind λt=>(zI t).bind k
def js1(n m:Nat)(x i:A)(o:Nat)(k:A->Option B):Option B:=(ji m x i).bind λt=>(Z6 t o).bind λt=>(zX n t).bind k
def joa(m:Nat)(x i:A)(o:Nat)(k:A->Option B):Option B:=(ji m x i).bind λt=>(Z6 t o).bind λt=>(zI t).bind k
def jQ(x y:A)(X Y:Option B):Option B:=(jw .lss false x y).bind λt=>(zD t).bind λu=>brn u X Y
def jcq(x y:A)(X Y:Option B):Option B:=(jw .leq false x y).bind λt=>(zD t).bind λu=>brn u X Y
def yq(x y:A)(X Y:Option B):Option B:=(jw .gtr false x y).bind λt=>(zD t).bind λu=>brn u X Y
def jfR(x y:A)(X Y:Option B):Option B:=(jw .geq false x y).bind λt=>(zD t).bind λu=>brn u X Y
def kO(x y:A)(X Y:Option B):Option B:=(jw .eql false x y).bind λt=>(zD t).bind λu=>brn u X Y
def ze(x y:A)(X Y:Option B):Option B:=(jw .neq false x y).bind λt=>(zD t).bind λu=>brn u X Y
def jh(x:A):Xe:=some (x,[])
def yA(t:Xd):A:=A.agg [jd t 0,jd t 1]
def jod(t:Xd):A:=A.agg [jd t 0,jd t 1,jd t 2]
def jqu(t:Xd):A:=A.agg [jd t 0,jd t 1,jd t 2,jd t 3]
end
section
variable(a b c d e f g h i j k l m n o aa ab ac ad ae af ag ah ai aj ak al am:A)(p q r s t u v w x y z:Xc)
def jna:=MM K (.callv 8 [vD a] [])
def jfp:=hs (some []) 8 1111010 ([vT,vT,vP 0,vT,vP 1]++tp 9++[vD a,vD b,vD c]) 23 [.box [vR 2],.box [vR 3],.tre true 3 p,.tre true 3 q]
def jax:=hd 13 1111111010 [vD a,vT,vP 0,vT,vP 1,vD b,vP 2,vD c] 120 [.box [vD d,vR 3,vR 4,vR 5],.box [vD e,vR 6,vR 7,vR 8],.box [vD f,vR 9,vR 10,vR 11],.row 1 p,.row 1 q,.row 3 r,.row 1 s,.row 1 t,.row 3 u,.row 1 v,.row 1 w,.row 3 x]
def jgH:=MM K (.callv 14 [vD a] [])
def jkd:=MM K (.callv 16 [V.agg [V.d a,V.row 0,V.row 1,V.row 2],vD b] [.tre true 1 p,.tre true 1 q,.tre true 3 r])
def jkg:=hd 19 11010 ([vT,vP 0]++tp 4++[vD a,vD b,vD c]) 27 [.box [vD d]]
def jkh:=hd 20 1111010 ([vT,vT,vT,vR 0]++tp 8++[vD a,vD b,vD c]) 11 [.row 1 p]
def jgI:=MM K (.callv 22 [vD a] [])
def jki:=hd 23 111010 [vT,vP 0,vT,vD a] 38 [.box [vD b]]
def jbJ:=hd 25 111010 [vT,vP 0,vT,vD a,vD b] 22 [.box [vD c]]
def jdP:=hd 30 111100 [vD a,vT,vP 0,vT,vP 1] 50 [.box [vR 2],.box [vR 3],.row 3 p,.row 3 q]
def jgK:=hd 31 1111010 [vD a,vD b,vT,vT,vT,vR 0,vD c,vD d] 27 [.row 1 p]
def jkj:=hd 33 11111010 (tp 4++[vR 0,vD a,vD b]) 30 [.row 1 p]
def jgL:=hd 36 11010 ([vD a,vD b]++tp 5++[vD c,vD d]) 10 []
def jaw:=MM K (.callv 38 [vD a] [])
def jbm:=hs (some []) 38 1111010 (tp 4++[vR 0]++tp 8++[vD a,vD b,vD c]) 16 [.tre true 1 p]
def jkk:=hd 40 111010 [vD a,vD b,vT,vT,vT,vD c] 20 []
def jke:=MM K (.callv 42 [vR 0,vD a] [.tre true 1 p])
def jbn:=hs (some [0]) 42 11010 [vR 0,vD a,vT,vT,vT,vD b] 13 [.tre true 1 p]
def jm7:=MM K (.callv 43 [V.agg [V.row 0],vD a] [.tre true 3 p])
def jkl:=hd 44 11010 [vD a,vD b,vT,vT,vT,vD c] 15 []
def jm8:=MM K (.callv 53 [vP 0] [.box [vD a,vD b,vD c]])
def jkf:=MM K (.callv 54 [vP 0] [.box [vD a,vD b,vD c]])
def jkm:=hd 61 11010 [vD a,vD b,vT,vT,vT,vD c] 19 []
def jdQ:=hd 63 111111010 [vD a,vT,vT,vT,vD b,vD c,vD d] 51 []
def jkn:=hd 65 11010 [vD a,vT,vT,vD b] 15 []
def jbK:=hd 66 111010 [vD a,vT,vT,vD b,vD c] 20 []
def jko:=hd 71 1111010 ([vT,vT,vT,vR 0]++tp 6++[vD a,vD b,vD c]) 11 [.row 1 p]
def jkp:=hd 72 111010 [vD a,vD b,vT,vT,vT,vD c] 21 []
def jm9:=MM K (.callv 73 [vR 0,vD a] [.tre true 3 p])
def jbo:=hs (some [0]) 73 11010 [vR 0,vD a,vT,vT,vT,vD b] 33 [.tre true 3 p]
def jkq:=hd 74 11010 [vD a,vD b,vT,vT,vT,vD c] 39 []
def jgM:=hd 79 111010 [vT,vT,vT,vD a,vT,vT,vD b,vD c,vD d] 9 []
def jkr:=hd 83 11111010 ([vT,vP 0,vT,vR 1]++tp 24++[vD a,vD b,vD c]) 16 [.box [vD d,vD e],.row 1 p]
def qv:=MM K (.callv 91 [vP 0,vD a] [.box [vD b,vD c,vD d]])
def jnb:=MM K (.callv 92 [vP 0] [.box [vD a,vD b,vD c]])
def YW:=MM K (.callv 93 [vP 0] [.box [vD a,vD b,vD c]])
def jfq:=hs (some [0]) 93 111010100 [vP 0,vT,vP 1,vP 2] 24 [.box [vD a,vD b,vD c],.box [vD d,vR 4],.box [vD e,vR 3],.tre true 2 p,.tre true 2 q]
def YY:=hs (some [0]) 93 111010100 [vP 0,vT,vP 1,vP 2] 24 [.box [vD a,vD b,vD c],.box [vD d,vR 3],.box [vD e,vR 4],.tre true 2 p,.tre true 2 q]
def jks:=hd 95 1111010 [vT,vP 0,vT,vD a] 31 [.box [vD b,vD c]]
def JO:=hd 96 1111010 [vD a,vT,vT,vD b] 41 []
def jgN:=hd 98 1111010 [vT,vT,vP 0,vP 1,vT,vT,vT,vD a] 67 [.box [vD b,vD c],.box [vD d,vD e]]
def jdR:=hd 99 1111010 [vT,vP 0,vT,vD a,vD b] 45 [.box [vD c,vD d]]
def jfe:=hd 111 111100 [vD a,vT,vT,vD b] 16 []
def QU:=MM K (.callv 112 [vR 0,vD a] [.tre true 2 p])
def YX:=hs (some [0]) 112 11010 [vR 0,vD a,vT,vT,vT,vD b] 22 [.tre true 2 p]
def jff:=hd 113 11010 [vD a,vD b,vT,vT,vT,vD c] 26 []
def jbH:=hd 120 11010 ([vD a]++tp 4++[vD b,vD c]) 41 []
def jfg:=hd 124 11010 ([vD a,vD b,vD c]++tp 8++[vD d,vD e,vD f]) 25 []
def jfc:=MM K (.callv 131 [vP 0,vD a] [.box [vD b,vD c,vD d]])
def jfd:=MM K (.callv 132 [vP 0] [.box [vD a,vD b,vD c]])
def KR:=hs (some [0]) 132 11100 [vP 0,vT,vT,vD a] 94 [.box [vD b,vD c,vD d]]
def jbE:=MM K (.callv 133 [vP 0,vD a] [.box [vD b,vD c,vD d]])
def jfh:=hd 134 111010 [vT,vD a,vP 0,vT,vT,vD b,vD c] 24 [.box [vD d,vD e]]
def jfi:=hd 135 111010 [vT,vP 0,vT,vD a,vD b] 17 [.box [vD c,vD d]]
def QX:=hd 136 111010 [vD a,vT,vT,vD b] 25 []
def QY:=hd 139 11100 [vD a,vD b,vT,vT,vP 0,vT,vD c] 79 [.box [vD d,vR 1],.row 2 p]
def jfj:=hd 139 11111110 [vD a,vT,vT,vT,vP 0,vT,vD b,vP 1] 78 [.box [vD c,vR 2],.box [vD d,vR 3],.row 2 p,.row 2 q]
def jfk:=hd 147 11010 ([vD a,vD b]++tp 5++[vD c,vD d]) 10 []
def jfl:=hd 149 111010 [vT,vT,vT,vD a,vT,vT,vT,vD b,vD c,vD d] 12 []
def jfm:=hd 150 111010 [vT,vT,vT,vD a,vT,vT,vT,vD b,vD c,vD d] 10 []
def jbI:=hd 151 11010 ([vD a]++tp 4++[vD b,vD c]) 33 []
def jfn:=hd 174 111010 [vD a,vD b,vT,vT,vT,vD c] 21 []
def jfo:=hd 175 11010 ([vD a,vD b]++tp 5++[vD c,vD d]) 10 []
def e_0(a:A)(p:Xc)(q:Xc)(r:Xc):Xe:=brn (kj a) (jh (A.tup [A.agg [a,A.sl 1 p,A.sl 1 q,A.sl 3 r],vb false])) none
def e_1(a:Xd):Xe:=brn (kj (jd a 0)) (brn (kj (jd a 1)) (brn (kj (jd a 0)) (brn (kj (jd a 1)) (jh (A.tup [A.agg [vb false,jd a 0,jd a 1],vb true])) none) none) none) none
def e_2(a:A)(b:A):Xe:=kF 47 [a] λc=>ze c b (jh (A.tup [vi 0,vb false])) (jh (A.tup [a,vb true]))
def e_3(a:A)(b:A)(c:A):Xe:=Zb a b λb=>j9 b a λa=>j9 b c λc=>zN b (jw .leq false a c) λa=>jS b a (vb false) λa=>jh a
def e_4(a:A)(b:A)(c:A)(d:A):Xe:=Ka a (Ka b (jh (vi 0)) (jh (vi (- 1)))) (Ka b (jh (vi 1)) (jQ c d (jh (vi (- 1))) (yq c d (jh (vi 1)) (jh (vi 0)))))
def e_5(a:A)(b:A)(c:A)(d:A)(p:Xc):Xe:=brn (kj a) (some (A.top,[b,c,d,a,A.sl 66 p])) none
def e_6(a:A)(b:A)(c:A)(p:Xc)(d:A)(e:A)(q:Xc):Xe:=(qv (sv [44]) a b c).bind λa=>kK a 0 λb=>kK a 1 λc=>kK a 2 λf=>kK a 3 λa=>Ka a ((YW b c f).bind λa=>kK a 0 λb=>kK a 1 λc=>kK a 2 λf=>kK a 3 λg=>YS 66 a 4 λa=>brn (kj g) (brn (j6 g) (brn (zq ((kg p)+(kg [[g,A.sl 2 a]])) 40) (YY b c f d e q (J4 p [[g,A.sl 2 a]])) none) none) none) ((jbE (sv [41]) b c f).bind λa=>kK a 0 λb=>kK a 1 λc=>kK a 2 λa=>e_5 e b c a p)
def e_7(a:A)(b:A)(c:A)(d:A):Xe:=YT 2 2 a b λe=>kF 99 [e] λe=>jp c e λc=>jp b (vi 1) λb=>jdR c b d a
def e_9(a:Xd):Xe:=brn (kj (jd a 0)) (brn (kj (jd a 1)) (jh (A.tup [yA a,vb true])) none) none
def e_8(a:A)(b:A)(c:Xd):Xe:=zz a (JA .not b) λb=>KI a (vb true) b (jh (A.tup [A.agg [sv [],A.sl 2 []],vb false])) (e_9 c)
theorem cev:type_of% (And.intro @jv.eq_1 (And.intro @kIA.eq_1 (And.intro @jad.eq_1 (And.intro @jS.eq_1 (And.intro @jA.eq_1 (And.intro @zf.eq_1 (And.intro @jqs.eq_1 (And.intro @j9.eq_1 (And.intro @kh.eq_1 (And.intro @zN.eq_1 (And.intro @zz.eq_1 (And.intro @yz.eq_1 (And.intro @Qn.eq_1 (And.intro @kF.eq_1 (And.intro @kfn.eq_1 (And.intro @Yy.eq_1 (And.intro @kK.eq_1 (And.intro @YS.eq_1 (And.intro @kIx.eq_1 (And.intro @kRG.eq_1 (And.intro @kIS.eq_1 (And.intro @kRs.eq_1 (And.intro @Za.eq_1 (And.intro @jp.eq_1 (And.intro @yj.eq_1 (And.intro @Zb.eq_1 (And.intro @job.eq_1 (And.intro @jco.eq_1 (And.intro @jaS.eq_1 (And.intro @joc.eq_1 (And.intro @jeb.eq_1 (And.intro @jkU.eq_1 (And.intro @jhD.eq_1 (And.intro @Ka.eq_1 (And.intro @KI.eq_1 (And.intro @kbN.eq_1 (And.intro @kLb.eq_1 (And.intro @kF2.eq_1 (And.intro @kFN.eq_1 (And.intro @kAP.eq_1 (And.intro @YT.eq_1 (And.intro @kIP.eq_1 (And.intro @js1.eq_1 (And.intro @joa.eq_1 (And.intro @jQ.eq_1 (And.intro @jcq.eq_1 (And.intro @yq.eq_1 (And.intro @jfR.eq_1 (And.intro @kO.eq_1 (And.intro @ze.eq_1 (And.intro @jh.eq_1 (And.intro @yA.eq_1 (And.intro @jod.eq_1 (And.intro @jqu.eq_1 (And.intro @e_0.eq_1 (And.intro @e_1.eq_1 (And.intro @e_2.eq_1 (And.intro @e_3.eq_1 (And.intro @e_4.eq_1 (And.intro @e_5.eq_1 (And.intro @e_6.eq_1 (And.intro @e_7.eq_1 (And.intro @e_9.eq_1 (@e_8.eq_1)))))))))))))))))))))))))))))))))))))))))))))))))))))))))))))))):=And.intro @jv.eq_1 (And.intro @kIA.eq_1 (And.intro @jad.eq_1 (And.intro @jS.eq_1 (And.intro @jA.eq_1 (And.intro @zf.eq_1 (And.intro @jqs.eq_1 (And.intro @j9.eq_1 (And.intro @kh.eq_1 (And.intro @zN.eq_1 (And.intro @zz.eq_1 (And.intro @yz.eq_1 (And.intro @Qn.eq_1 (And.intro @kF.eq_1 (And.intro @kfn.eq_1 (And.intro @Yy.eq_1 (And.intro @kK.eq_1 (And.intro @YS.eq_1 (And.intro @kIx.eq_1 (And.intro @kRG.eq_1 (And.intro @kIS.eq_1 (And.intro @kRs.eq_1 (And.intro @Za.eq_1 (And.intro @jp.eq_1 (And.intro @yj.eq_1 (And.intro @Zb.eq_1 (And.intro @job.eq_1 (And.intro @jco.eq_1 (And.intro @jaS.eq_1 (And.intro @joc.eq_1 (And.intro @jeb.eq_1 (And.intro @jkU.eq_1 (And.intro @jhD.eq_1 (And.intro @Ka.eq_1 (And.intro @KI.eq_1 (And.intro @kbN.eq_1 (And.intro @kLb.eq_1 (And.intro @kF2.eq_1 (And.intro @kFN.eq_1 (And.intro @kAP.eq_1 (And.intro @YT.eq_1 (And.intro @kIP.eq_1 (And.intro @js1.eq_1 (And.intro @joa.eq_1 (And.intro @jQ.eq_1 (And.intro @jcq.eq_1 (And.intro @yq.eq_1 (And.intro @jfR.eq_1 (And.intro @kO.eq_1 (And.intro @ze.eq_1 (And.intro @jh.eq_1 (And.intro @yA.eq_1 (And.intro @jod.eq_1 (And.intro @jqu.eq_1 (And.intro @e_0.eq_1 (And.intro @e_1.eq_1 (And.intro @e_2.eq_1 (And.intro @e_3.eq_1 (And.intro @e_4.eq_1 (And.intro @e_5.eq_1 (And.intro @e_6.eq_1 (And.intro @e_7.eq_1 (And.intro @e_9.eq_1 (@e_8.eq_1)))))))))))))))))))))))))))))))))))))))))))))))))))))))))))))))
theorem g4:G 4 [a]=Za a λb=>yq b (vi 1048576) (jh (vb true)) (kF2 13 [a] λb c=>jv 4 b λb=>(jgH a).bind λd=>kK d 0 λe=>kK d 1 λf=>YS 65 d 2 λg=>YS 65 d 3 λh=>YS 67 d 4 λd=>brn (kT e) (brn (kT f) (brn (kj e) (kfn true (G 15 [A.agg [e,A.sl 1 g,A.sl 1 h,A.sl 3 d],jqu b]) λi=>Yy i λi=>kh i f λf=>kh i c λj=>zz i (jw .neq true f j) λf=>KI i (vb true) f (jh (vb false)) ((jkd e (vi 1) g h d).bind λd=>kK d 0 λf=>YS 65 d 1 λg=>YS 65 d 2 λh=>YS 67 d 3 λd=>kfn true (G 17 [A.agg [e,A.sl 1 g,A.sl 1 h,A.sl 3 d],vi 1]) λi=>jQ i (vi 0) (jh (vb false)) (ze i f (jh (vb false)) ((jgH a).bind λa=>kK a 0 λi=>kK a 1 λj=>YS 65 a 2 λk=>YS 65 a 3 λl=>YS 67 a 4 λa=>brn (kT i) (brn (kT j) (brn (kj i) (kfn true (G 15 [A.agg [i,A.sl 1 k,A.sl 1 l,A.sl 3 a],jqu b]) λa=>Yy a λa=>kh a j λb=>kh a c λc=>zz a (jw .neq true b c) λb=>KI a (vb true) b (jh (vb false)) (kfn true (G 17 [A.agg [e,A.sl 1 g,A.sl 1 h,A.sl 3 d],vi 1]) λa=>jQ a (vi 0) (jh (vb false)) (ze a f (jh (vb false)) (jh (vb true))))) none) none) none)))) none) none) none):=gq Tryz.func4
theorem jvX:jna a=kO a (sv [36,102,97,108,115,101]) (some (A.top,[vb true,A.sl 67 []])) (kF 21 [a,sv [32,124,32]] λa=>zf a λb=>jfp a b (vi 0) [] []):=vq Tryz.func8
theorem jjt:jfp a b c p q=jQ c b (kIP 1 a c λd=>(jgI d).bind λd=>kK d 0 λe=>kK d 1 λf=>kK d 2 λg=>YS 66 d 3 λd=>brn (kT e) (brn (kT f) (brn (kT g) (brn (kj e) (brn (kj f) (kbN g (some (A.top,[vb false,A.sl 67 []])) (brn (kj e) (brn (kj f) (brn (j6 e) (brn (j6 f) (brn (zq ((kg q)+(kg [[e,f,A.sl 2 d]])) 48) (jp c (vi 1) λc=>jfp a b c p (J4 q [[e,f,A.sl 2 d]])) none) none) none) none) none)) none) none) none) none) none) (kfn true (G 19 [A.agg [A.sl 3 q]]) λa=>kbN a (some (A.top,[vb false,A.sl 67 []])) (some (A.top,[vb true,A.sl 67 q]))):=hq Tryz.func8
theorem g13:G 13 [a]=Za a λb=>yq b (vi 4000) (jh (A.tup [A.agg [vi 0,A.sl 1 [],A.sl 1 [],A.sl 3 []],vb false])) (kF 31 [a,vy 32] λb=>zf b λc=>jaS c (vi 5) λc=>kh c b λd=>zz c (ji 1 d (vi 3)) λd=>zz c (zI d) λd=>zz c (J3 d) λd=>zz c (jw .eql false d (vi 0)) λd=>KI c (vb true) d (jh (A.tup [A.agg [vi 0,A.sl 1 [],A.sl 1 [],A.sl 3 []],vb false])) (jax a b (vi 1) (vi 0) (vi 0) (vi 0) [] [] [] [] [] [] [] [] [])):=gq Tryz.func13
theorem jrK:jax a b c d e f p q r s t u v w x=jcq c (vi 6) (kIP 1 b (vi 0) λg=>kF 32 [] λh=>kIP 1 h c λh=>kO g h (brn (kj c) (jp c (vi 1) λf=>jax a b f d e c p q r s t u v w x) none) (jp c (vi 1) λc=>jax a b c d e f p q r s t u v w x)) (kIP 1 b (vi 1) λc=>kF2 33 [c] λc d=>kIP 1 b (vi 3) λg=>kIP 1 b (vi 3) λh=>Za h λh=>jhD h (vi 1) λh=>(jX g none (some h)).bind λg=>kF2 33 [g] λg h=>kIP 1 b (vi 0) λi=>Za i λi=>kIP 1 b (vi 1) λj=>Za j λj=>jp i j λi=>kIP 1 b (vi 2) λj=>Za j λj=>jp i j λi=>kIP 1 b (vi 3) λb=>Za b λb=>jp i b λb=>jp b (vi 4) λb=>(jX a (some b) none).bind λb=>kF2 30 [b] λb i=>jv 1 b λb=>Yy d λd=>kh d h λh=>zz d (JA .not h) λh=>jS d (vb true) h λd=>kh d i λh=>zz d (JA .not h) λh=>KI d (vb true) h (e_0 e s t u) (brn (kj c) (brn (kj g) (brn (kj (jd b 0)) (kF2 34 [A.agg [f,c,g,jd b 0]] λd h=>Yy h λh=>kh h d λd=>kh h a λa=>zz h (jw .neq false d a) λa=>KI h (vb true) a (e_0 e s t u) (brn (kj f) (brn (kj c) (brn (kj g) (brn (kj (jd b 0)) (jh (A.tup [A.agg [f,c,g,jd b 0],vb true])) none) none) none) none)) none) none) none)):=hq Tryz.func13
theorem jt1:jgH a=kF 35 [a,sv [58,32]] λb=>jad b 0 λc=>jad b 1 λd=>jad b 2 λb=>kF 35 [c,sv [32,97,116,32]] λc=>jad c 0 λe=>jad c 1 λf=>jad c 2 λc=>kF 35 [e,sv [32]] λe=>jad e 0 λg=>jad e 1 λh=>jad e 2 λe=>kF 37 [] λi=>kF 36 [i,g] λg=>brn (kj g) (brn (kj g) ((jaw h).bind λh=>kK h 0 λi=>YS 65 h 1 λh=>brn (kT i) ((jaw f).bind λf=>kK f 0 λj=>YS 65 f 1 λf=>brn (kT j) ((jna d).bind λd=>kK d 0 λk=>YS 67 d 1 λd=>brn (kT k) (kfn true (G 39 [A.agg [g,A.sl 1 h,A.sl 1 f,A.sl 3 d]]) λl=>jad l 0 λm=>jad l 1 λl=>Yy b λb=>kh b c λc=>zz b (JA .not c) λc=>jS b (vb true) c λb=>kh b e λc=>zz b (JA .not c) λc=>jS b (vb true) c λb=>kh b i λc=>zz b (JA .not c) λc=>jS b (vb true) c λb=>kh b j λc=>zz b (JA .not c) λc=>jS b (vb true) c λb=>kh b k λc=>zz b (JA .not c) λc=>jS b (vb true) c λb=>kh b l λc=>zz b (JA .not c) λc=>jS b (vb true) c λb=>kh b m λc=>kh b a λa=>zz b (jw .neq false c a) λa=>KI b (vb true) a (some (A.top,[vi 0,vb false,A.sl 65 [],A.sl 65 [],A.sl 67 []])) (brn (kj g) (some (A.top,[g,vb true,A.sl 65 h,A.sl 65 f,A.sl 67 d])) none)) none) none) none) none) none:=vq Tryz.func14
theorem g15:G 15 [a,b]=jv 4 a λa=>jv 4 b λb=>ze (jd a 0) (jd b 0) (jh (vb false)) (kF 40 [jd a 1,jd b 1] λc=>kbN c (jh (vb false)) (kF 40 [jd a 2,jd b 2] λc=>kbN c (jh (vb false)) (kF 41 [A.agg [jd a 3],A.agg [jd b 3]] λa=>kbN a (jh (vb false)) (jh (vb true))))):=gq Tryz.func15
theorem jt2:jkd a b p q r=brn (kj a) ((jke b p).bind λa=>kK a 0 λb=>YS 65 a 1 λa=>(jke b q).bind λb=>kK b 0 λc=>YS 65 b 1 λb=>(jm7 c r).bind λc=>kK c 0 λd=>YS 67 c 1 λc=>some (A.top,[d,A.sl 65 a,A.sl 65 b,A.sl 67 c])) none:=vq Tryz.func16
theorem g17:G 17 [a,b]=jv 4 a λa=>kF 44 [jd a 1,b] λb=>jQ b (vi 0) (jh (vi (- 1))) (kF 44 [jd a 2,b] λb=>jQ b (vi 0) (jh (vi (- 1))) (kF 45 [A.agg [jd a 3],b] λa=>jQ a (vi 0) (jh (vi (- 1))) (jh a))):=gq Tryz.func17
theorem g19:G 19 [a]=jv 1 a λa=>zf (jd a 0) λb=>jkg (jd a 0) b (vi 0) (jd a 0):=gq Tryz.func19
theorem jrL:jkg a b c d=jQ c b (YT 3 3 a c λe=>jv 3 e λe=>kFN 48 [jod e] λf=>kh f c λg=>zz f (jw .gtr false g (vi 0)) λg=>kh f g λg=>jA g true λ_=>j9 g d λh=>j9 g c λi=>zN g (jw .sub false i (vi 1)) λi=>zN g (ji 3 h i) λh=>zN g (zX 3 h) λh=>jA g true λ_=>yz g 49 [h,jod e] λe=>zN g (jw .geq false e (vi 0)) λe=>zz f (yF g e (vb false)) λe=>KI f (vb true) e (jh (vb false)) (jp c (vi 1) λc=>jkg a b c d)) (zf d λa=>jco a (vi 8) λa=>jh a):=hq Tryz.func19
theorem g20:G 20 [a]=jv 1 a λa=>zf (jd a 0) λb=>kO b (vi 0) (jh (sv [36,102,97,108,115,101])) (zf (jd a 0) λb=>jkh (jd a 0) b (vi 0) []):=gq Tryz.func20
theorem jrM:jkh a b c p=jQ c b (YT 3 3 a c λd=>jv 3 d λd=>kF 50 [jod d] λd=>brn (kj d) (brn (zq ((kg p)+(kg [[d]])) 16) (jp c (vi 1) λc=>jkh a b c (J4 p [[d]])) none) none) (kfn true (G 51 [A.sl 1 p,sv [32,124,32]]) λa=>jh a):=hq Tryz.func20
theorem jt3:jgI a=(KX (zg (K.at 22) 82) [sv [],vi 0,vb false] [(0,a)]).bind λb=>jv 3 b λb=>(jm8 (jd b 0) (jd b 1) (jd b 2)).bind λb=>kK b 0 λc=>kK b 1 λd=>kK b 2 λe=>kK b 3 λf=>kK b 4 λg=>YS 66 b 5 λb=>brn (kj f) (brn (kj g) ((jkf c d e).bind λc=>kK c 0 λ_=>kK c 1 λ_=>kK c 2 λ_=>kK c 3 λc=>Yy c λc=>jA c false λ_=>zz c ((G 48 [A.agg [f,g,A.sl 2 b]]).bind (fin true)) λd=>zz c (JA .not d) λd=>jS c (vb true) d λc=>jA c false λ_=>zz c ((G 50 [A.agg [f,g,A.sl 2 b]]).bind (fin true)) λd=>kh c a λa=>zz c (jw .neq false d a) λa=>KI c (vb true) a (some (A.top,[vb false,sv [],vb false,A.sl 66 []])) (brn (kj f) (brn (kj g) (some (A.top,[f,g,vb true,A.sl 66 b])) none) none)) none) none:=vq Tryz.func22
theorem g23:G 23 [a]=jv 1 a λa=>zf (jd a 0) λb=>yq b (vi 8) (jh (vb false)) (jki (vi 0) (jd a 0)):=gq Tryz.func23
theorem jrN:jki a b=kLb a b (js1 2 3 b a 1 λc=>kFN 55 [c] λc=>kh c a λd=>zz c (jw .gtr false d (vi 0)) λd=>kh c d λd=>jA d true λ_=>j9 d b λe=>j9 d a λf=>zN d (jw .sub false f (vi 1)) λf=>zN d (ji 3 e f) λe=>zN d (zX 3 e) λe=>jA d true λ_=>j9 d b λf=>j9 d a λg=>zN d (ji 3 f g) λf=>zN d (zX 3 f) λf=>yz d 56 [e,f] λe=>zN d (jw .geq false e (vi 0)) λe=>zz c (yF d e (vb false)) λd=>KI c (vb true) d (jh (vb false)) (jp a (vi 1) λa=>jki a b)) (jh (vb true)):=hq Tryz.func23
theorem g25:G 25 [a]=jv 1 a λa=>jbJ (sv []) (vi 0) (jd a 0):=gq Tryz.func25
theorem jrO:jbJ a b c=kLb b c (yq b (vi 0) (jp a (sv [32,124,32]) λa=>YT 3 3 c b λd=>kF 57 [d] λd=>jp a d λa=>jp b (vi 1) λb=>jbJ a b c) (YT 3 3 c b λd=>kF 57 [d] λd=>jp a d λa=>jp b (vi 1) λb=>jbJ a b c)) (kO a (sv []) (jh (sv [36,102,97,108,115,101])) (jh a)):=hq Tryz.func25
theorem g30:G 30 [a]=kO a (sv [36,102,97,108,115,101]) (jh (A.tup [A.agg [A.sl 3 []],vb true])) (jdP a [] []):=gq Tryz.func30
theorem jcy:jdP a p q=ze a (sv []) (kF 61 [a,sv [32,124,32]] λb=>jfR b (vi 0) (jp b (vi 3) λc=>(jX a (some c) none).bind λc=>(jX a none (some b)).bind λa=>kO c (sv []) (jh (A.tup [A.agg [A.sl 3 []],vb false])) (kF2 62 [a] λa b=>jv 3 a λa=>kbN b (jh (A.tup [A.agg [A.sl 3 []],vb false])) (brn (kj (jd a 0)) (brn (kj (jd a 1)) (brn (kj (jd a 2)) (brn (zq ((kg q)+(kg [[jd a 0,jd a 1,jd a 2]])) 48) (jdP c p (J4 q [[jd a 0,jd a 1,jd a 2]])) none) none) none) none))) (kF2 62 [a] λa b=>jv 3 a λa=>kbN b (jh (A.tup [A.agg [A.sl 3 []],vb false])) (brn (kj (jd a 0)) (brn (kj (jd a 1)) (brn (kj (jd a 2)) (brn (zq ((kg q)+(kg [[jd a 0,jd a 1,jd a 2]])) 48) (jdP (sv []) p (J4 q [[jd a 0,jd a 1,jd a 2]])) none) none) none) none))) (yj (jbi q) (vi 0) λa=>jA a false λ_=>zz a ((G 23 [A.agg [A.sl 3 q]]).bind (fin true)) λb=>zz a (JA .not b) λb=>KI a (vb true) b (jh (A.tup [A.agg [A.sl 3 []],vb false])) (jh (A.tup [A.agg [A.sl 3 q],vb true]))):=hq Tryz.func30
theorem g31:G 31 [a,b]=jgK a b (vi 0) (vi 0) []:=gq Tryz.func31
theorem jop:jgK a b c d p=Za a λe=>jQ d e (kIS a d λe=>kO e b ((jX a (some c) (some d)).bind λc=>brn (kj c) (brn (zq ((kg p)+(kg [[c]])) 16) (jp d (vi 1) λe=>jp d (vi 1) λd=>jgK a b e d (J4 p [[c]])) none) none) (jp d (vi 1) λd=>jgK a b c d p)) ((jX a (some c) none).bind λa=>brn (kj a) (brn (zq ((kg p)+(kg [[a]])) 16) (jh (A.sl 1 (J4 p [[a]]))) none) none):=hq Tryz.func31
theorem g32:G 32 []=jh (A.sl 1 [[sv []],[sv [105,110,112,117,116]],[sv [114,101,115,111,108,118,101]],[sv [102,97,99,116,111,114]],[sv [115,117,112,101,114,112,111,115,101]],[sv [114,101,102,108,101,120,105,118,101]],[sv [114,101,119,114,105,116,101]]]):=gq Tryz.func32
theorem g33:G 33 [a]=kO a (sv [45]) (jh (A.tup [A.sl 1 [],vb true])) (kF 31 [a,vy 44] λa=>jkj a (vi 0) []):=gq Tryz.func33
theorem joq:jkj a b p=kLb b a (kIP 1 a b λc=>kF2 63 [c] λc d=>kbN d (jh (A.tup [A.sl 1 [],vb false])) (brn (kj c) (brn (zq ((kg p)+(kg [[c]])) 8) (jp b (vi 1) λb=>jkj a b (J4 p [[c]])) none) none)) (jh (A.tup [A.sl 1 p,vb true])):=hq Tryz.func33
theorem g34:G 34 [a]=jv 4 a λa=>kFN 64 [jd a 0,vi 1,vi 6] λb=>jA b false λ_=>kh b (jd a 1) λc=>Qn b 65 [c] λc=>zz b (JA .not c) λc=>jS b (vb true) c λb=>jA b false λ_=>kh b (jd a 2) λc=>Qn b 65 [c] λc=>zz b (JA .not c) λc=>jS b (vb true) c λb=>jA b false λ_=>jA b false λ_=>Qn b 23 [A.agg [jd a 3]] λc=>zz b (JA .not c) λc=>KI b (vb true) c (jh (A.tup [sv [],vb false])) (kF 32 [] λb=>kIP 1 b (jd a 0) λb=>jp b (sv [32]) λb=>kF 66 [jd a 1] λc=>jp b c λb=>jp b (sv [32,97,116,32]) λb=>kF 66 [jd a 2] λc=>jp b c λb=>jp b (sv [58,32]) λb=>kF 25 [A.agg [jd a 3]] λa=>jp b a λa=>jh (A.tup [a,vb true])):=gq Tryz.func34
theorem g36:G 36 [a,b]=zf a λc=>jgL a b c (vi 0):=gq Tryz.func36
theorem jkW:jgL a b c d=jQ d c (kIP 1 a d λe=>kO b e (jh d) (jp d (vi 1) λd=>jgL a b c d)) (jh (vi (- 1))):=hq Tryz.func36
theorem g37:G 37 []=jh (A.sl 1 [[sv []],[sv [105,110,112,117,116]],[sv [114,101,115,111,108,118,101]],[sv [102,97,99,116,111,114]],[sv [115,117,112,101,114,112,111,115,101]],[sv [114,101,102,108,101,120,105,118,101]],[sv [114,101,119,114,105,116,101]]]):=gq Tryz.func37
theorem jt4:jaw a=kO a (sv [45]) (some (A.top,[vb true,A.sl 65 []])) (kF 21 [a,sv [44]] λa=>zf a λb=>jbm a b (vi 0) []):=vq Tryz.func38
theorem jfY:jbm a b c p=jQ c b (kIP 1 a c λd=>kF2 68 [d] λd e=>kbN e (some (A.top,[vb false,A.sl 65 []])) (brn (kj d) (brn (j6 d) (brn (zq ((kg p)+(kg [[d]])) 8) (jp c (vi 1) λc=>jbm a b c (J4 p [[d]])) none) none) none)) (some (A.top,[vb true,A.sl 65 p])):=hq Tryz.func38
theorem g39:G 39 [a]=jv 4 a λa=>kFN 69 [jd a 0,vi 1,vi 6] λb=>jA b false λ_=>kh b (jd a 1) λc=>Qn b 70 [c] λc=>zz b (JA .not c) λc=>jS b (vb true) c λb=>jA b false λ_=>kh b (jd a 2) λc=>Qn b 70 [c] λc=>zz b (JA .not c) λc=>jS b (vb true) c λb=>jA b false λ_=>jA b false λ_=>Qn b 19 [A.agg [jd a 3]] λc=>zz b (JA .not c) λc=>KI b (vb true) c (jh (A.tup [sv [],vb false])) (kF 37 [] λb=>kIP 1 b (jd a 0) λb=>jp b (sv [32]) λb=>kF 71 [jd a 1] λc=>jp b c λb=>jp b (sv [32,97,116,32]) λb=>kF 71 [jd a 2] λc=>jp b c λb=>jp b (sv [58,32]) λb=>kF 20 [A.agg [jd a 3]] λa=>jp b a λa=>jh (A.tup [a,vb true])):=gq Tryz.func39
theorem g40:G 40 [a,b]=zf a λc=>zf b λd=>ze c d (jh (vb false)) (jkk a b (vi 0)):=gq Tryz.func40
theorem jrP:jkk a b c=kLb c a (kIP 1 a c λd=>kIP 1 b c λe=>ze d e (jh (vb false)) (jp c (vi 1) λc=>jkk a b c)) (jh (vb true)):=hq Tryz.func40
theorem g41:G 41 [a,b]=jv 1 a λa=>jv 1 b λb=>kF 72 [jd a 0,jd b 0] λa=>kbN a (jh (vb false)) (jh (vb true)):=gq Tryz.func41
theorem jt5:jke a p=jbn a (vi 0) p:=vq Tryz.func42
theorem jkX:jbn a b p=jQ b (jbi p) (kIx (kg p) b λc=>brn (kj a) (brn (j6 a) (kRG p c λd=>brn (QP d 0 1) (jp a (vi 1) λe=>jp b (vi 1) λb=>jbn e b (yC p c (kS d 0 [a]))) none) none) none) (some (A.top,[a,A.sl 65 p])):=hq Tryz.func42
theorem jt6:jm7 a p=(jm9 a p).bind λa=>kK a 0 λb=>YS 67 a 1 λa=>some (A.top,[b,A.sl 67 a]):=vq Tryz.func43
theorem g44:G 44 [a,b]=jkl a b (vi 0):=gq Tryz.func44
theorem jrQ:jkl a b c=kLb c a (kIP 1 a c λd=>ze d b (jh (vi (- 1))) (jp b (vi 1) λb=>jp c (vi 1) λc=>jkl a b c)) (jh b):=hq Tryz.func44
theorem g45:G 45 [a,b]=jv 1 a λa=>kF 74 [jd a 0,b] λa=>jQ a (vi 0) (jh (vi (- 1))) (jh a):=gq Tryz.func45
theorem g47:G 47 [a]=jQ a (vi 0) ((JA .neg a).bind λa=>kF 47 [a] λa=>jp (sv [45]) a λa=>jh a) (jQ a (vi 10) (jp a (vi 1) λb=>(jX (sv [48,49,50,51,52,53,54,55,56,57]) (some a) (some b)).bind λa=>jh a) (jkU a (vi 10) λb=>kF 47 [b] λb=>(jw .rem false a (vi 10)).bind λc=>(jw .rem false a (vi 10)).bind λa=>jp a (vi 1) λa=>(jX (sv [48,49,50,51,52,53,54,55,56,57]) (some c) (some a)).bind λa=>jp b a λa=>jh a)):=gq Tryz.func47
theorem g48:G 48 [a]=jv 3 a λa=>kF 78 [A.agg [jd a 1,jd a 2]] λa=>jh a:=gq Tryz.func48
theorem g49:G 49 [a,b]=jv 3 a λa=>jv 3 b λb=>kF 80 [A.agg [jd a 1,jd a 2],A.agg [jd b 1,jd b 2]] λc=>kF 82 [jd a 0] λa=>kF 82 [jd b 0] λb=>kF 81 [a,b] λa=>brn (kj c) (brn (kj a) (kfn true (G 79 [A.sl 1 [[c],[a]]]) λa=>jh a) none) none:=gq Tryz.func49
theorem g50:G 50 [a]=jv 3 a λa=>Ka (jd a 0) (kF 83 [A.agg [jd a 1,jd a 2]] λa=>jh a) (kF 84 [A.agg [jd a 1,jd a 2]] λb=>Ka b (YT 2 2 (jd a 2) (vi 0) λb=>kF 83 [b] λb=>jp b (sv [32,33,61,32]) λb=>YT 2 2 (jd a 2) (vi 1) λa=>kF 83 [a] λa=>jp b a λa=>jh a) (kF 83 [A.agg [jd a 1,jd a 2]] λa=>jp (sv [126]) a λa=>jh a)):=gq Tryz.func50
theorem jg0:jm8 a b c=(qv (sv [126]) a b c).bind λa=>kK a 0 λb=>kK a 1 λc=>kK a 2 λd=>kK a 3 λa=>Ka a ((jnb b c d).bind λa=>kK a 0 λb=>kK a 1 λc=>kK a 2 λd=>kK a 3 λe=>YS 66 a 4 λa=>brn (kj e) (brn (kj e) (some (A.top,[b,c,d,vb false,e,A.sl 66 a])) none) none) ((YW b c d).bind λa=>kK a 0 λb=>kK a 1 λc=>kK a 2 λd=>kK a 3 λe=>YS 66 a 4 λa=>brn (kj e) ((qv (sv [32,33,61,32]) b c d).bind λb=>kK b 0 λc=>kK b 1 λd=>kK b 2 λf=>kK b 3 λb=>Ka b ((YW c d f).bind λb=>kK b 0 λc=>kK b 1 λd=>kK b 2 λf=>kK b 3 λg=>YS 66 b 4 λb=>brn (kj e) (brn (kj g) (brn (j6 e) (brn (j6 g) (some (A.top,[c,d,f,vb false,sv [61],A.sl 66 [[e,A.sl 2 a],[g,A.sl 2 b]]])) none) none) none) none) ((qv (sv [32,61,32]) c d f).bind λb=>kK b 0 λc=>kK b 1 λd=>kK b 2 λf=>kK b 3 λb=>Ka b ((YW c d f).bind λb=>kK b 0 λc=>kK b 1 λd=>kK b 2 λf=>kK b 3 λg=>YS 66 b 4 λb=>brn (kj e) (brn (kj g) (brn (j6 e) (brn (j6 g) (some (A.top,[c,d,f,vb true,sv [61],A.sl 66 [[e,A.sl 2 a],[g,A.sl 2 b]]])) none) none) none) none) (brn (kj e) (brn (kj e) (some (A.top,[c,d,f,vb true,e,A.sl 66 a])) none) none))) none):=vq Tryz.func53
theorem jt7:jkf a b c=Yy c λd=>jA d true λ_=>jA d true λ_=>jA d true λ_=>j9 d b λe=>jA d true λ_=>jA d true λ_=>jA d true λ_=>j9 d a λf=>zN d (J3 f) λf=>zN d (jw .eql false e f) λe=>jS d e (vb false) λd=>some (A.top,[a,b,c,d]):=vq Tryz.func54
theorem g55:G 55 [a]=jv 2 a λa=>kO (jd a 0) (sv [61]) (zf (jd a 1) λb=>yj b (vi 2) λb=>jA b true λ_=>yz b 94 [yA a] λc=>jS b c (vb false) λb=>jA b true λ_=>j9 b (jd a 1) λc=>zN b (ji 2 c (vi 0)) λc=>zN b (zX 2 c) λc=>yz b 95 [c] λc=>jS b c (vb false) λb=>jA b true λ_=>j9 b (jd a 1) λa=>zN b (ji 2 a (vi 1)) λa=>zN b (zX 2 a) λa=>yz b 95 [a] λa=>jS b a (vb false) λa=>jh a) (kF 96 [jd a 0] λb=>jA b true λ_=>yz b 97 [yA a] λa=>jS b a (vb false) λa=>jh a):=gq Tryz.func55
theorem g56:G 56 [a,b]=jv 3 a λa=>jv 3 b λb=>kF 98 [A.agg [jd a 1,jd a 2],A.agg [jd b 1,jd b 2]] λc=>ze c (vi 0) (jh c) (Yy (jd a 0) λc=>jA c true λ_=>j9 c (jd b 0) λd=>KI c d (vb false) (jh (vi (- 1))) (jA (jd a 0) true λ_=>j9 (jd a 0) (jd b 0) λb=>zN (jd a 0) (JA .not b) λb=>KI (jd a 0) b (vb false) (jh (vi 1)) (jh (vi 0)))):=gq Tryz.func56
theorem g57:G 57 [a]=jv 3 a λa=>Ka (jd a 0) (kF 99 [A.agg [jd a 1,jd a 2]] λa=>jh a) (kO (jd a 1) (sv [61]) (YT 2 2 (jd a 2) (vi 0) λb=>kF 99 [b] λb=>jp b (sv [32,33,61,32]) λb=>YT 2 2 (jd a 2) (vi 1) λa=>kF 99 [a] λa=>jp b a λa=>jh a) (kF 99 [A.agg [jd a 1,jd a 2]] λa=>jp (sv [126]) a λa=>jh a)):=gq Tryz.func57
theorem g61:G 61 [a,b]=jkm a b (vi 0):=gq Tryz.func61
theorem jkY:jkm a b c=Za b λd=>jp c d λd=>Za a λe=>jcq d e (Za b λd=>jp c d λd=>(jX a (some c) (some d)).bind λd=>kO d b (jh c) (jp c (vi 1) λc=>jkm a b c)) (jh (vi (- 1))):=hq Tryz.func61
theorem g62:G 62 [a]=kF2 102 [a,sv [32,33,61,32]] λb c=>jv 2 b λb=>Ka c (e_1 b) (jeb a (sv []) λb=>j9 b a λc=>zN b (jK c (vi 0)) λc=>zN b (jw .eql false c (vy 126)) λc=>KI b c (vb false) ((jX a (some (vi 1)) none).bind λa=>kF2 103 [a] λa b=>jv 2 a λa=>Yy b λb=>jA b false λ_=>Qn b 55 [yA a] λc=>zz b (JA .not c) λc=>KI b (vb true) c (jh (A.tup [A.agg [vb false,sv [],A.sl 2 []],vb false])) (e_1 a)) (kF2 104 [a] λa b=>jv 2 a λa=>kbN b (jh (A.tup [A.agg [vb false,sv [],A.sl 2 []],vb false])) (brn (kj (jd a 0)) (brn (kj (jd a 1)) (brn (kj (jd a 0)) (brn (kj (jd a 1)) (jh (A.tup [A.agg [vb true,jd a 0,jd a 1],vb true])) none) none) none) none))):=gq Tryz.func62
theorem g63:G 63 [a]=Za a λb=>job b (vi 1) λb=>j9 b a λc=>zN b (jK c (vi 0)) λc=>zN b (jw .eql false c (vy 45)) λc=>KI b c (vb false) ((jX a (some (vi 1)) none).bind λb=>Za b λc=>kF 64 [c,vi 1,vi 6] λc=>kbN c (jh (A.tup [vi 0,vb false])) (jdQ a b (vi 0) (vi 0))) (Za a λb=>kF 64 [b,vi 1,vi 6] λb=>kbN b (jh (A.tup [vi 0,vb false])) (jdQ a a (vi 0) (vi 0))):=gq Tryz.func63
theorem jrR:jdQ a b c d=Za b λe=>jQ d e (kIS b d λe=>jaS e (vy 48) λe=>kh e b λf=>kh e d λg=>zz e (jK f g) λf=>zz e (jw .gtr false f (vy 57)) λf=>KI e (vb true) f (jh (A.tup [vi 0,vb false])) (joc (vi 10) c λc=>kIS b d λe=>jhD e (vy 48) λe=>(jcN .i64 e).bind λe=>jp c e λc=>jp d (vi 1) λd=>jdQ a b c d)) (Za b λb=>Za a λd=>jQ b d ((JA .neg c).bind λb=>e_2 b a) (e_2 c a)):=hq Tryz.func63
theorem g64:G 64 [a,b,c]=e_3 a b c:=gq Tryz.func64
theorem g65:G 65 [a]=jkn a (vi 0):=gq Tryz.func65
theorem jrS:jkn a b=kLb b a (kIP 1 a b λc=>kF 64 [c,vi 0,vi 99] λc=>kbN c (jh (vb false)) (jp b (vi 1) λb=>jkn a b)) (zf a λa=>jco a (vi 12) λa=>jh a):=hq Tryz.func65
theorem g66:G 66 [a]=jbK a (sv []) (vi 0):=gq Tryz.func66
theorem jrT:jbK a b c=kLb c a (yq c (vi 0) (jp b (sv [44]) λb=>kIP 1 a c λd=>kF 47 [d] λd=>jp b d λb=>jp c (vi 1) λc=>jbK a b c) (kIP 1 a c λd=>kF 47 [d] λd=>jp b d λb=>jp c (vi 1) λc=>jbK a b c)) (kO b (sv []) (jh (sv [45])) (jh b)):=hq Tryz.func66
theorem g69:G 69 [a,b,c]=e_3 a b c:=gq Tryz.func69
theorem g70:G 70 [a]=zf a λb=>jco b (vi 12) λb=>j9 b a λa=>yz b 108 [a,A.fn 109 []] λa=>zN b (JA .not a) λa=>jS b a (vb false) λa=>jh a:=gq Tryz.func70
theorem g71:G 71 [a]=zf a λb=>kO b (vi 0) (jh (sv [45])) (zf a λb=>jko a b (vi 0) []):=gq Tryz.func71
theorem jrU:jko a b c p=jQ c b (kIP 1 a c λd=>kF 107 [d] λd=>brn (kj d) (brn (zq ((kg p)+(kg [[d]])) 16) (jp c (vi 1) λc=>jko a b c (J4 p [[d]])) none) none) (kfn true (G 51 [A.sl 1 p,sv [44]]) λa=>jh a):=hq Tryz.func71
theorem g72:G 72 [a,b]=zf a λc=>zf b λd=>ze c d (jh (vb false)) (jkp a b (vi 0)):=gq Tryz.func72
theorem jrV:jkp a b c=kLb c a (YT 3 3 a c λd=>YT 3 3 b c λe=>kF 110 [d,e] λd=>kbN d (jh (vb false)) (jp c (vi 1) λc=>jkp a b c)) (jh (vb true)):=hq Tryz.func72
theorem jt8:jm9 a p=jbo a (vi 0) p:=vq Tryz.func73
theorem jkZ:jbo a b p=jQ b (jbi p) ((jw .rem false a (vi 3)).bind λc=>yj c (vi 0) λc=>kIx (kg p) b λd=>brn (kj c) (brn (j6 c) (kRG p d λe=>brn (QP e 0 1) (jp a (vi 1) λa=>kF 111 [a] λf=>kIx (kg (yC p d (kS e 0 [c]))) b λg=>brn (kj f) (brn (j6 f) (kRG (yC p d (kS e 0 [c])) g λh=>brn (QP h 1 1) (jp a (vi 1) λa=>kIx (kg (yC (yC p d (kS e 0 [c])) g (kS h 1 [f]))) b λi=>kRG (yC (yC p d (kS e 0 [c])) g (kS h 1 [f])) i λj=>brn (jaP (jd j 2)) (kRG (yC (yC p d (kS e 0 [c])) g (kS h 1 [f])) i λj=>kRs 2 (jd j 2) λk=>(QU a k).bind λa=>kK a 0 λk=>YS 66 a 1 λa=>jp b (vi 1) λb=>jbo k b (yC (yC (yC p d (kS e 0 [c])) g (kS h 1 [f])) i (kS j 2 [A.sl 2 a]))) none) none) none) none) none) none) none) (some (A.top,[a,A.sl 67 p])):=hq Tryz.func73
theorem g74:G 74 [a,b]=jkq a b (vi 0):=gq Tryz.func74
theorem jrW:jkq a b c=kLb c a (joa 3 a c 0 λd=>(jw .rem false b (vi 3)).bind λe=>yj e (vi 0) λe=>(jw .neq true d e).bind λd=>Ka d (jh (vi (- 1))) (jp b (vi 1) λb=>kIA 3 a c λd=>jqs d 1 λd=>kAP d 0 λd=>kF 111 [b] λe=>ze d e (jh (vi (- 1))) (jp b (vi 1) λb=>kIA 3 a c λd=>jqs d 1 λd=>kAP d 1 λd=>kF 113 [d,b] λb=>jQ b (vi 0) (jh (vi (- 1))) (jp c (vi 1) λc=>jkq a b c)))) (jh b):=hq Tryz.func74
theorem g78:G 78 [a]=jv 2 a λa=>kF 84 [yA a] λb=>Ka b (zf (jd a 1) λb=>yj b (vi 2) λb=>jA b true λ_=>yz b 118 [yA a] λc=>jS b c (vb false) λb=>jA b true λ_=>j9 b (jd a 1) λc=>zN b (ji 2 c (vi 0)) λc=>zN b (zX 2 c) λc=>yz b 119 [c] λc=>jS b c (vb false) λb=>jA b true λ_=>j9 b (jd a 1) λa=>zN b (ji 2 a (vi 1)) λa=>zN b (zX 2 a) λa=>yz b 119 [a] λa=>jS b a (vb false) λa=>jh a) (kF 120 [jd a 0] λb=>jA b true λ_=>yz b 121 [yA a] λa=>jS b a (vb false) λa=>jh a):=gq Tryz.func78
theorem g79:G 79 [a]=zf a λb=>jgM (vi 0) a b (vi 0):=gq Tryz.func79
theorem jor:jgM a b c d=jQ d c (kIP 1 b d λe=>ze e a (jh e) (jp d (vi 1) λd=>jgM a b c d)) (jh a):=hq Tryz.func79
theorem g80:G 80 [a,b]=jv 2 a λa=>jv 2 b λb=>kF 122 [yA a] λc=>kF 122 [yA b] λd=>j9 c d λe=>zN c (JA .not e) λe=>KI c e (vb false) (jh (vi (- 1))) (j9 d c λc=>zN d (JA .not c) λc=>KI d c (vb false) (jh (vi 1)) (kF 123 [jd a 0,jd b 0] λc=>zf (jd a 1) λd=>zf (jd b 1) λe=>kF 81 [d,e] λd=>brn (kj c) (brn (kj d) (kfn true (G 79 [A.sl 1 [[c],[d]]]) λc=>ze c (vi 0) (jh c) (kF 124 [jd a 1,jd b 1,A.fn 80 []] λa=>jh a)) none) none)):=gq Tryz.func80
theorem g81:G 81 [a,b]=kF 125 [a] λc=>kF 125 [b] λd=>e_4 c d a b:=gq Tryz.func81
theorem g82:G 82 [a]=Ka a (jh (vi 1)) (jh (vi 0)):=gq Tryz.func82
theorem g83:G 83 [a]=jv 2 a λa=>kF 84 [yA a] λb=>Ka b (YT 2 2 (jd a 1) (vi 0) λb=>kF 83 [b] λb=>jp b (sv [32,61,32]) λb=>YT 2 2 (jd a 1) (vi 1) λa=>kF 83 [a] λa=>jp b a λa=>jh a) (zf (jd a 1) λb=>kO b (vi 0) (jh (jd a 0)) (zf (jd a 1) λb=>jkr (jd a 1) b (vi 0) (jd a 0) (jd a 1) [])):=gq Tryz.func83
theorem jrX:jkr a b c d e p=jQ c b (YT 2 2 a c λf=>jv 2 f λf=>kF 83 [yA f] λf=>brn (kj f) (brn (zq ((kg p)+(kg [[f]])) 16) (jp c (vi 1) λc=>jkr a b c d e (J4 p [[f]])) none) none) (jp d (sv [40]) λa=>kfn true (G 51 [A.sl 1 p,sv [44]]) λb=>jp a b λa=>jp a (sv [41]) λa=>jh a):=hq Tryz.func83
theorem g84:G 84 [a]=jv 2 a λa=>yj (jd a 0) (sv [61]) λa=>jh a:=gq Tryz.func84
theorem jry:qv a b c d=(jfc a b c d).bind λb=>kK b 0 λc=>kK b 1 λd=>kK b 2 λe=>kK b 3 λb=>Ka b (Za a λa=>jp d a λa=>brn (kj a) (some (A.top,[c,a,e,b])) none) (some (A.top,[c,d,e,b])):=vq Tryz.func91
theorem jnz:jnb a b c=(YW a b c).bind λa=>kK a 0 λb=>kK a 1 λc=>kK a 2 λd=>kK a 3 λe=>YS 66 a 4 λa=>brn (kj e) ((qv (sv [32,61,32]) b c d).bind λb=>kK b 0 λc=>kK b 1 λd=>kK b 2 λf=>kK b 3 λb=>Ka b ((YW c d f).bind λb=>kK b 0 λc=>kK b 1 λd=>kK b 2 λf=>kK b 3 λg=>YS 66 b 4 λb=>brn (kj e) (brn (kj g) (brn (j6 e) (brn (j6 g) (some (A.top,[c,d,f,sv [61],A.sl 66 [[e,A.sl 2 a],[g,A.sl 2 b]]])) none) none) none) none) (e_5 e c d f a)) none:=vq Tryz.func92
theorem jnA:YW a b c=(jfd a b c).bind λa=>kK a 0 λb=>kK a 1 λc=>kK a 2 λd=>kK a 3 λa=>brn (kj a) (brn (kj a) ((qv (sv [40]) b c d).bind λb=>kK b 0 λc=>kK b 1 λd=>kK b 2 λe=>kK b 3 λb=>Ka b ((YW c d e).bind λb=>kK b 0 λc=>kK b 1 λd=>kK b 2 λe=>kK b 3 λf=>YS 66 b 4 λb=>brn (kj f) (brn (j6 f) (jfq c d e (sv []) a [[f,A.sl 2 b]] []) none) none) (brn (kj a) (some (A.top,[c,d,e,a,A.sl 66 []])) none)) none) none:=vq Tryz.func93
theorem jqA:jfq a b c d e p q=e_6 a b c p d e q:=hq Tryz.func93
theorem jbt:YY a b c d e p q=e_6 a b c q d e p:=hq Tryz.func93
theorem g94:G 94 [a]=jv 2 a λa=>kF 134 [yA a,vi 30] λb=>jco b (vi 30) λb=>jA b true λ_=>yz b 135 [yA a] λa=>zN b (jw .leq false a (vi 8)) λa=>jS b a (vb false) λa=>jh a:=gq Tryz.func94
theorem g95:G 95 [a]=jv 2 a λa=>kF 136 [jd a 0] λb=>Ka b (zf (jd a 1) λa=>yj a (vi 0) λa=>jh a) (kFN 96 [jd a 0] λb=>jA b false λ_=>kh b (jd a 1) λc=>zz b (Qz c) λc=>zz b (jw .gtr false c (vi 4)) λc=>KI b (vb true) c (jh (vb false)) (jks (vi 0) (jd a 0) (jd a 1))):=gq Tryz.func95
theorem jrY:jks a b c=kLb a c (YT 2 2 c a λd=>kF 95 [d] λd=>kbN d (jh (vb false)) (jp a (vi 1) λa=>jks a b c)) (jh (vb true)):=hq Tryz.func95
theorem g96:G 96 [a]=Za a λb=>kFN 64 [b,vi 1,vi 6] λb=>kh b a λc=>zz b (jK c (vi 0)) λc=>zz b (jw .lss false c (vy 97)) λc=>jS b (vb true) c λb=>kh b a λc=>zz b (jK c (vi 0)) λc=>zz b (jw .gtr false c (vy 122)) λc=>KI b (vb true) c (jh (vb false)) (yj a (sv [116,114,117,101]) λb=>Ka b (Ka b (jh (vb false)) (JO a (vi 1))) (yj a (sv [102,97,108,115,101]) λb=>Ka b (Ka b (jh (vb false)) (JO a (vi 1))) (yj a (sv [116,114,117,116,104]) λb=>Ka b (Ka b (jh (vb false)) (JO a (vi 1))) (yj a (sv [98,111,116,104]) λb=>Ka b (Ka b (jh (vb false)) (JO a (vi 1))) (yj a (sv [101,105,116,104,101,114]) λb=>Ka b (Ka b (jh (vb false)) (JO a (vi 1))) (yj a (sv [105,102]) λb=>Ka b (Ka b (jh (vb false)) (JO a (vi 1))) (yj a (sv [97,108,108]) λb=>Ka b (Ka b (jh (vb false)) (JO a (vi 1))) (kO a (sv [115,111,109,101]) (jh (vb false)) (JO a (vi 1)))))))))):=gq Tryz.func96
theorem jrZ:JO a b=Za a λc=>jQ b c (kIS a b λc=>kFN 137 [c] λc=>j9 c a λd=>j9 c b λe=>zN c (jK d e) λd=>zN c (jw .neq false d (vy 95)) λd=>KI c d (vb false) (jh (vb false)) (jp b (vi 1) λb=>JO a b)) (jh (vb true)):=hq Tryz.func96
theorem g97:G 97 [a]=jv 2 a λa=>kF 94 [yA a] λb=>jA b true λ_=>yz b 95 [yA a] λa=>jS b a (vb false) λa=>jh a:=gq Tryz.func97
theorem g98:G 98 [a,b]=jv 2 a λa=>jv 2 b λb=>kF 136 [jd a 0] λc=>kF 136 [jd b 0] λd=>j9 c d λe=>zN c (JA .not e) λe=>KI c e (vb false) (jh (vi (- 1))) (Yy c λc=>j9 c d λd=>KI c d (vb false) (jh (vi 1)) (ze (jd a 0) (jd b 0) (kF 138 [jd a 0,jd b 0] λa=>jh a) (zf (jd a 1) λc=>kLb c (jd b 1) (jh (vi (- 1))) (zf (jd a 1) λc=>zf (jd b 1) λd=>yq c d (jh (vi 1)) (jgN (vi 0) (jd a 0) (jd a 1) (jd b 0) (jd b 1)))))):=gq Tryz.func98
theorem jr0:jgN a b c d e=kLb a c (YT 2 2 c a λf=>YT 2 2 e a λg=>kF 98 [f,g] λf=>ze f (vi 0) (jh f) (jp a (vi 1) λa=>jgN a b c d e)) (jh (vi 0)):=hq Tryz.func98
theorem g99:G 99 [a]=jv 2 a λa=>kO (jd a 0) (sv [61]) (YT 2 2 (jd a 1) (vi 0) λb=>kF 99 [b] λb=>jp b (sv [32,61,32]) λb=>YT 2 2 (jd a 1) (vi 1) λa=>kF 99 [a] λa=>jp b a λa=>jh a) (jdR (jd a 0) (vi 0) (jd a 0) (jd a 1)):=gq Tryz.func99
theorem jr1:jdR a b c d=kLb b d (kO b (vi 0) (jp a (sv [40]) λa=>e_7 d b a c) (jp a (sv [44]) λa=>e_7 d b a c)) (zf d λb=>yq b (vi 0) (jp a (sv [41]) λa=>jh a) (jh a)):=hq Tryz.func99
theorem jv7:G 102 [a,b]=kF 61 [a,b] λc=>jQ c (vi 0) (jh (A.tup [A.agg [sv [],A.sl 2 []],vb false])) ((jX a none (some c)).bind λd=>kF2 103 [d] λd e=>jv 2 d λd=>Za b λb=>jp c b λb=>(jX a (some b) none).bind λa=>kF2 103 [a] λa b=>jv 2 a λa=>brn (kj (jd d 0)) (brn (kj (jd d 1)) (brn (kj (jd a 0)) (brn (kj (jd a 1)) (Yy e λc=>kh c b λb=>zz c (JA .not b) λb=>jS c (vb true) b λb=>jA b false λ_=>zz b ((G 55 [A.agg [sv [61],A.sl 2 [[jd d 0,jd d 1],[jd a 0,jd a 1]]]]).bind (fin true)) λc=>zz b (JA .not c) λc=>KI b (vb true) c (jh (A.tup [A.agg [sv [],A.sl 2 []],vb false])) (jh (A.tup [A.agg [sv [61],A.sl 2 [[jd d 0,jd d 1],[jd a 0,jd a 1]]],vb true]))) none) none) none) none):=gq Tryz.func102
theorem jv8:G 103 [a]=kF2 139 [a,vi 0] λb c=>jv 2 b λb=>Za a λa=>jeb c a λa=>jA a false λ_=>Qn a 97 [yA b] λc=>e_8 a c b:=gq Tryz.func103
theorem jv9:G 104 [a]=kF2 102 [a,sv [32,61,32]] λb c=>jv 2 b λb=>Ka c (e_9 b) (kF2 103 [a] λa b=>jv 2 a λa=>Yy b λb=>jA b false λ_=>Qn b 55 [yA a] λc=>e_8 b c a):=gq Tryz.func104
theorem jwa:G 108 [a,b]=kF 147 [a,b] λa=>Zb a (vi 0) λa=>jh a:=gq Tryz.func108
theorem jwb:G 109 [a]=kFN 69 [a,vi 0,vi 99] λa=>jh a:=gq Tryz.func109
theorem jwc:G 110 [a,b]=jv 3 a λa=>jv 3 b λb=>(jw .neq true (jd a 0) (jd b 0)).bind λc=>Ka c (jh (vb false)) (kF 148 [A.agg [jd a 1,jd a 2],A.agg [jd b 1,jd b 2]] λa=>kbN a (jh (vb false)) (jh (vb true))):=gq Tryz.func110
theorem jwd:G 111 [a]=jcq a (vi 0) (jh (sv [109,48])) (jfe a (sv [])):=gq Tryz.func111
theorem jog:jfe a b=yq a (vi 0) ((jw .rem false a (vi 10)).bind λc=>jp (vi 48) c λc=>(jcN .u8 c).bind λc=>brn (kj c) ((YH (A.sl 1 [[c]])).bind λc=>jp c b λb=>jkU a (vi 10) λa=>jfe a b) none) (jp (sv [109]) b λa=>jh a):=hq Tryz.func111
theorem jsA:QU a p=YX a (vi 0) p:=vq Tryz.func112
theorem jhI:YX a b p=jQ b (jbi p) (kF 111 [a] λc=>kIx (kg p) b λd=>brn (kj c) (brn (j6 c) (kRG p d λe=>brn (QP e 0 1) (jp a (vi 1) λa=>kIx (kg (yC p d (kS e 0 [c]))) b λf=>kRG (yC p d (kS e 0 [c])) f λg=>brn (jaP (jd g 1)) (kRG (yC p d (kS e 0 [c])) f λg=>kRs 2 (jd g 1) λh=>(QU a h).bind λa=>kK a 0 λh=>YS 66 a 1 λa=>jp b (vi 1) λb=>YX h b (yC (yC p d (kS e 0 [c])) f (kS g 1 [A.sl 2 a]))) none) none) none) none) (some (A.top,[a,A.sl 66 p])):=hq Tryz.func112
theorem jwe:G 113 [a,b]=jff a b (vi 0):=gq Tryz.func113
theorem joh:jff a b c=kLb c a (joa 2 a c 0 λd=>kF 111 [b] λe=>ze d e (jh (vi (- 1))) (jp b (vi 1) λb=>joa 2 a c 1 λd=>kF 113 [d,b] λb=>jQ b (vi 0) (jh (vi (- 1))) (jp c (vi 1) λc=>jff a b c))) (jh b):=hq Tryz.func113
theorem jwf:G 118 [a]=jv 2 a λa=>kF 149 [yA a] λb=>jco b (vi 30) λb=>jA b true λ_=>yz b 150 [yA a] λa=>zN b (jw .leq false a (vi 8)) λa=>jS b a (vb false) λa=>jh a:=gq Tryz.func118
theorem jwg:G 119 [a]=jv 2 a λa=>kF 151 [jd a 0] λb=>Ka b (zf (jd a 1) λa=>yj a (vi 0) λa=>jh a) (kF 120 [jd a 0] λb=>jA b true λ_=>j9 b (jd a 1) λc=>zN b (Qz c) λc=>zN b (jw .leq false c (vi 4)) λc=>jS b c (vb false) λb=>jA b true λ_=>j9 b (jd a 1) λa=>yz b 152 [a,A.fn 153 []] λa=>zN b (JA .not a) λa=>jS b a (vb false) λa=>jh a):=gq Tryz.func119
theorem jwh:G 120 [a]=Za a λb=>jbH a b (vi 0):=gq Tryz.func120
theorem jfU:jbH a b c=jQ c b (yj c (vi 0) λd=>j9 d a λe=>j9 d c λf=>zN d (jK e f) λe=>yz d 154 [e] λe=>zN d (JA .not e) λe=>jS d e (vb false) λd=>kh d a λe=>kh d c λf=>zz d (jK e f) λe=>Qn d 154 [e] λe=>zz d (JA .not e) λe=>kh d e λe=>j9 e a λf=>j9 e c λg=>zN e (jK f g) λf=>yz e 155 [f] λf=>zN e (JA .not f) λf=>zz d (yF e f (vb false)) λe=>kh d e λe=>j9 e a λf=>j9 e c λg=>zN e (jK f g) λf=>zN e (jw .neq false f (vy 95)) λf=>zz d (yF e f (vb false)) λe=>KI d (vb true) e (jh (vb false)) (jp c (vi 1) λc=>jbH a b c)) (Za a λb=>kF 69 [b,vi 1,vi 6] λb=>yz b 157 [] λc=>j9 b a λa=>yz b 156 [c,a] λa=>zN b (JA .not a) λa=>jS b a (vb false) λa=>jh a):=hq Tryz.func120
theorem jwi:G 121 [a]=jv 2 a λa=>kF 118 [yA a] λb=>jA b true λ_=>yz b 119 [yA a] λa=>jS b a (vb false) λa=>jh a:=gq Tryz.func121
theorem juo:G 122 [a]=jv 2 a λa=>kIS (jd a 0) (vi 0) λa=>kF 158 [a] λa=>jh a:=gq Tryz.func122
theorem jwj:G 123 [a,b]=kF 159 [a] λc=>kF 159 [b] λd=>e_4 c d a b:=gq Tryz.func123
theorem jwk:G 124 [a,b,c]=zf a λd=>jfg a b c a d (vi 0):=gq Tryz.func124
theorem joi:jfg a b c d e f=jQ f e (YT 2 2 d f λg=>jv 2 g λg=>zf b λh=>jfR f h (jh (vi 1)) (YT 2 2 b f λh=>jv 2 h λh=>(DX.run K (MM K) (.callc c [yA g,yA h] false)).bind λg=>ze g (vi 0) (jh g) (jp f (vi 1) λf=>jfg a b c d e f))) (zf a λa=>kLb a b (jh (vi (- 1))) (jh (vi 0))):=hq Tryz.func124
theorem jup:G 125 [a]=jeb a a λa=>jh a:=gq Tryz.func125
theorem jsB:jfc a b c d=Yy d λe=>jA e true λ_=>jA e true λ_=>jA e true λ_=>j9 e b λf=>jA e true λ_=>jA e true λ_=>jA e true λ_=>j9 e c λg=>zN e (jX f (some g) none) λf=>j9 e a λa=>yz e 163 [f,a] λa=>jS e a (vb false) λa=>some (A.top,[b,c,d,a]):=vq Tryz.func131
theorem jsC:jfd a b c=KR b a b c:=vq Tryz.func132
theorem jhJ:KR a b c d=Za b λe=>jaS c e λe=>jA e true λ_=>jA e true λ_=>jA e true λ_=>j9 e b λf=>jA e true λ_=>jA e true λ_=>jA e true λ_=>j9 e c λg=>zN e (jK f g) λf=>yz e 154 [f] λf=>j9 e f λf=>jA f false λ_=>jA f false λ_=>jA f false λ_=>kh f b λg=>jA f false λ_=>jA f false λ_=>jA f false λ_=>kh f c λh=>zz f (jK g h) λg=>Qn f 158 [g] λg=>zN e (yF f (vb true) g) λf=>j9 e f λf=>jA f false λ_=>jA f false λ_=>jA f false λ_=>kh f b λg=>jA f false λ_=>jA f false λ_=>jA f false λ_=>kh f c λh=>zz f (jK g h) λg=>Qn f 155 [g] λg=>zN e (yF f (vb true) g) λf=>j9 e f λf=>jA f false λ_=>jA f false λ_=>jA f false λ_=>kh f b λg=>jA f false λ_=>jA f false λ_=>jA f false λ_=>kh f c λh=>zz f (jK g h) λg=>zz f (jw .eql false g (vy 95)) λg=>zN e (yF f (vb true) g) λf=>KI e f (vb false) (jp c (vi 1) λc=>brn (kj c) (KR a b c d) none) (kh d a λe=>jA d false λ_=>jA d false λ_=>jA d false λ_=>kh d c λf=>zz d (jw .eql false e f) λe=>KI d (vb true) e (some (A.top,[b,c,vb true,sv []])) ((jX b (some a) (some c)).bind λa=>some (A.top,[b,c,d,a]))):=hq Tryz.func132
theorem jny:jbE a b c d=(qv a b c d).bind λa=>kK a 0 λb=>kK a 1 λc=>kK a 2 λd=>kK a 3 λa=>kbN a (some (A.top,[b,c,vb true])) (some (A.top,[b,c,d])):=vq Tryz.func133
theorem jwl:G 134 [a,b]=jv 2 a λa=>jfh b (vi 1) (vi 0) (jd a 0) (jd a 1):=gq Tryz.func134
theorem jjn:jfh a b c d e=zf e λf=>jaS c f λf=>j9 f b λg=>j9 f a λh=>zN f (jw .leq false g h) λg=>KI f g (vb false) (YT 2 2 e c λf=>jhD a b λg=>kF 134 [f,g] λf=>jp b f λb=>jp c (vi 1) λc=>jfh a b c d e) (jh b):=hq Tryz.func134
theorem jwm:G 135 [a]=jv 2 a λa=>jfi (vi 0) (vi 0) (jd a 0) (jd a 1):=gq Tryz.func135
theorem joj:jfi a b c d=kLb b d (YT 2 2 d b λe=>kF 135 [e] λe=>kF 164 [a,e] λa=>jp b (vi 1) λb=>jfi a b c d) (jp a (vi 1) λa=>jh a):=hq Tryz.func135
theorem jwn:G 136 [a]=Za a λb=>kFN 64 [b,vi 1,vi 4] λb=>kh b a λc=>zz b (jK c (vi 0)) λc=>zz b (jw .lss false c (vy 65)) λc=>jS b (vb true) c λb=>kh b a λc=>zz b (jK c (vi 0)) λc=>zz b (jw .gtr false c (vy 90)) λc=>KI b (vb true) c (jh (vb false)) (QX a (vi 1)):=gq Tryz.func136
theorem jok:QX a b=Za a λc=>jQ b c (kIS a b λc=>kF 137 [c] λc=>kbN c (jh (vb false)) (jp b (vi 1) λb=>QX a b)) (jh (vb true)):=hq Tryz.func136
theorem jwo:G 137 [a]=Zb a (vy 97) λb=>j9 b a λc=>zN b (jw .leq false c (vy 122)) λc=>jS b c (vb false) λb=>kh b a λc=>zz b (jw .geq false c (vy 48)) λc=>kh b c λc=>j9 c a λa=>zN c (jw .leq false a (vy 57)) λa=>zz b (yF c a (vb false)) λa=>jS b (vb true) a λa=>jh a:=gq Tryz.func137
theorem jwp:G 138 [a,b]=jQ a b (jh (vi (- 1))) (yq a b (jh (vi 1)) (jh (vi 0))):=gq Tryz.func138
theorem jwq:G 139 [a,b]=QY a b b (sv []) []:=gq Tryz.func139
theorem jcs:QY a b c d p=Za a λe=>jaS c e λe=>j9 e a λf=>j9 e c λg=>zN e (jK f g) λf=>yz e 165 [f] λf=>KI e f (vb false) (jp c (vi 1) λc=>QY a b c d p) ((jX a (some b) (some c)).bind λe=>brn (kj e) (brn (kj e) (kO c b (brn (kj e) (jh (A.tup [A.agg [e,A.sl 2 []],vi (- 1)])) none) (Za a λb=>yj c b λb=>kh b a λf=>kh b c λg=>zz b (jK f g) λf=>zz b (jw .neq false f (vy 40)) λf=>KI b (vb true) f (brn (kj e) (jh (A.tup [A.agg [e,A.sl 2 []],c])) none) (jfj a c d e p []))) none) none):=hq Tryz.func139
theorem jct:jfj a b c d p q=jp b (vi 1) λb=>kF2 139 [a,b] λb e=>jv 2 b λb=>jaS e (vi 0) λf=>kh f e λg=>kh f a λh=>zz f (J3 h) λh=>zz f (jw .eql false g h) λg=>jS f (vb true) g λf=>kh f a λg=>kh f e λh=>zz f (jK g h) λg=>zz f (jw .neq false g (vy 44)) λg=>kh f g λg=>j9 g a λh=>j9 g e λi=>zN g (jK h i) λh=>zN g (jw .neq false h (vy 41)) λh=>zz f (yF g h (vb false)) λg=>KI f (vb true) g (brn (kj d) (jh (A.tup [A.agg [d,A.sl 2 q],vi (- 1)])) none) (brn (kj (jd b 0)) (brn (kj (jd b 1)) (brn (zq ((kg q)+(kg [[jd b 0,jd b 1]])) 40) (kIS a e λf=>kO f (vy 41) (jp e (vi 1) λa=>brn (kj d) (jh (A.tup [A.agg [d,A.sl 2 (J4 q [[jd b 0,jd b 1]])],a])) none) (jfj a e c d p (J4 q [[jd b 0,jd b 1]]))) none) none) none):=hq Tryz.func139
theorem jwr:G 147 [a,b]=zf a λc=>jfk a b c (vi 0):=gq Tryz.func147
theorem jol:jfk a b c d=jQ d c (kIP 1 a d λe=>(DX.run K (MM K) (.callc b [e] false)).bind λe=>Ka e (jh d) (jp d (vi 1) λd=>jfk a b c d)) (jh (vi (- 1))):=hq Tryz.func147
theorem jws:G 148 [a,b]=jv 2 a λa=>jv 2 b λb=>ze (jd a 0) (jd b 0) (jh (vb false)) (kF 174 [jd a 1,jd b 1] λa=>kbN a (jh (vb false)) (jh (vb true))):=gq Tryz.func148
theorem jwt:G 149 [a]=jv 2 a λa=>zf (jd a 1) λb=>jfl (vi 1) (jd a 1) b (vi 0):=gq Tryz.func149
theorem jjo:jfl a b c d=jQ d c (YT 2 2 b d λe=>jv 2 e λe=>yq a (vi 30) (jh a) (kF 149 [yA e] λe=>jp a e λa=>jp d (vi 1) λd=>jfl a b c d)) (jh a):=hq Tryz.func149
theorem jwu:G 150 [a]=jv 2 a λa=>zf (jd a 1) λb=>jfm (vi 0) (jd a 1) b (vi 0):=gq Tryz.func150
theorem jom:jfm a b c d=jQ d c (YT 2 2 b d λe=>jv 2 e λe=>kF 150 [yA e] λe=>(jjG a e).bind λa=>jp d (vi 1) λd=>jfm a b c d) (jp a (vi 1) λa=>jh a):=hq Tryz.func150
theorem jwv:G 151 [a]=Za a λb=>jbI a b (vi 0):=gq Tryz.func151
theorem jfV:jbI a b c=jQ c b (yj c (vi 0) λd=>j9 d a λe=>j9 d c λf=>zN d (jK e f) λe=>yz d 158 [e] λe=>zN d (JA .not e) λe=>jS d e (vb false) λd=>kh d c λe=>zz d (jw .gtr false e (vi 0)) λe=>kh d e λe=>j9 e a λf=>j9 e c λg=>zN e (jK f g) λf=>yz e 154 [f] λf=>zN e (JA .not f) λf=>zz d (yF e f (vb false)) λe=>kh d e λe=>j9 e a λf=>j9 e c λg=>zN e (jK f g) λf=>yz e 155 [f] λf=>zN e (JA .not f) λf=>zz d (yF e f (vb false)) λe=>KI d (vb true) e (jh (vb false)) (jp c (vi 1) λc=>jbI a b c)) (Za a λa=>kF 69 [a,vi 1,vi 4] λa=>jh a):=hq Tryz.func151
theorem jww:G 152 [a,b]=kF 175 [a,b] λa=>Zb a (vi 0) λa=>jh a:=gq Tryz.func152
theorem jwx:G 153 [a]=jv 2 a λa=>kFN 119 [yA a] λa=>jh a:=gq Tryz.func153
theorem jwy:G 154 [a]=Zb a (vy 97) λb=>j9 b a λa=>zN b (jw .leq false a (vy 122)) λa=>jS b a (vb false) λa=>jh a:=gq Tryz.func154
theorem jwz:G 155 [a]=Zb a (vy 48) λb=>j9 b a λa=>zN b (jw .leq false a (vy 57)) λa=>jS b a (vb false) λa=>jh a:=gq Tryz.func155
theorem jwA:G 156 [a,b]=kF 36 [a,b] λa=>Zb a (vi 0) λa=>jh a:=gq Tryz.func156
theorem jwB:G 157 []=jh (A.sl 1 [[sv [116,114,117,101]],[sv [102,97,108,115,101]],[sv [116,114,117,116,104]],[sv [98,111,116,104]],[sv [101,105,116,104,101,114]],[sv [105,102]],[sv [97,108,108]],[sv [115,111,109,101]]]):=gq Tryz.func157
theorem jwC:G 158 [a]=Zb a (vy 65) λb=>j9 b a λa=>zN b (jw .leq false a (vy 90)) λa=>jS b a (vb false) λa=>jh a:=gq Tryz.func158
theorem juq:G 159 [a]=jeb a a λa=>jh a:=gq Tryz.func159
theorem jwD:G 163 [a,b]=kF 176 [a,b] λa=>jh a:=gq Tryz.func163
theorem jwE:G 164 [a,b]=yq a b (jh a) (jh b):=gq Tryz.func164
theorem jwF:G 165 [a]=kF 137 [a] λb=>kh b a λc=>zz b (jw .geq false c (vy 65)) λc=>kh b c λc=>j9 c a λd=>zN c (jw .leq false d (vy 90)) λd=>zz b (yF c d (vb false)) λc=>jS b (vb true) c λb=>kh b a λa=>zz b (jw .eql false a (vy 95)) λa=>jS b (vb true) a λa=>jh a:=gq Tryz.func165
theorem jwG:G 174 [a,b]=zf a λc=>zf b λd=>ze c d (jh (vb false)) (jfn a b (vi 0)):=gq Tryz.func174
theorem jon:jfn a b c=kLb c a (YT 2 2 a c λd=>YT 2 2 b c λe=>kF 148 [d,e] λd=>kbN d (jh (vb false)) (jp c (vi 1) λc=>jfn a b c)) (jh (vb true)):=hq Tryz.func174
theorem jwH:G 175 [a,b]=zf a λc=>jfo a b c (vi 0):=gq Tryz.func175
theorem joo:jfo a b c d=jQ d c (YT 2 2 a d λe=>(DX.run K (MM K) (.callc b [e] false)).bind λe=>Ka e (jh d) (jp d (vi 1) λd=>jfo a b c d)) (jh (vi (- 1))):=hq Tryz.func175
theorem jwI:G 176 [a,b]=Za a λc=>Za b λd=>Zb c d λc=>j9 c a λa=>j9 c b λd=>zN c (J3 d) λd=>zN c (jX a none (some d)) λa=>j9 c b λb=>zN c (jw .eql false a b) λa=>jS c a (vb false) λa=>jh a:=gq Tryz.func176
end
end
end Go.Proofs.YteoaojbmnibpcaaGreatDoor
