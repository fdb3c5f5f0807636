/- Pf -/
import Derived.Test.YtkkcepmpbackoaaGreatDoorPe
namespace Go.Proofs.YtkkcepmpbackoaaGreatDoor
open Go Go.RowKit Go.Proofs.YtkkcepmpbackoaaGreatDoor.Abs
set_option linter.unusedSimpArgs false
set_option linter.unusedVariables false
set_option maxHeartbeats 1000000
theorem jDr(l:Xi)(hl:l.length<=1048576):jAr (ints l)=some (.top,[ints l]):=by
 have key:=(upto (P:=λi=>jxc (ints l) (vi i) (part ci [vi 0] l i)=some (.top,[ints l])) (n:=l.length) ?_ ?_ 0 (Nat.zero_le _))
 .rw [jEu];have hm:=Y1 (b:=8) (n:=l.length) (by omega) hl;simp only[Int.natCast_zero,<-Y2]at key;simp only[jg,hm,key]
 .rw [jCm,ja1];simp only[jg]
 .intro i hi ih;have h1:=KE (f:=ci) (z:=[vi 0]) (Nat.le_of_lt hi);have h2:ZB (part ci [vi 0] l i).length (vi i)=some i:=zR (by omega);have h4:=ja3 (f:=ci) (z:=[vi 0]) hi;have h5:=jy hi (Nat.le_trans hl (by decide));rw[jCm];simp only[jg,hi,Int.ofNat_lt,jb hi,h2,ja2 hi,jCi,h4,h5,ih]
theorem jqx:∀(r M:Xi)(k:Int),0<=k->k+r.length<=4194304->(M++r).length<=9223372036854775807->jxH (vi k) (vi (M.length:Nat)) ((M++r).map ci)=some (.top,[vi (k+(r.length:Nat)),ints (M++jAw k r.length)])
 | [],M,k,h0,hk,hl=>by
  rw[jCn,List.append_nil];simp only[jg,jAw,List.append_nil,Int.natCast_zero,Int.add_zero]
 |x::r,M,k,h0,hk,hl=>by
  have h1:((M.length:Nat):Int)<(((M++x::r).length:Nat):Int):=jrn M r x;have h2:=jEj (f:=ci) M r x;have h3:=jDG (f:=ci) M r x;have h4:=jDH (f:=ci) M r x k;have e1:ck (k+1)=some (vi (k+1)):=jZ (by omega) (by simp only[List.length_cons]at hk;omega);have h5:=jy (i:=M.length) (n:=(M++x::r).length) (by simp) hl;have ih:=jqx r (M++[k]) (k+1) (by omega) (by simp only[List.length_cons]at hk;omega) (by simp at hl⊢;omega);have q:(M++[k]).length=M.length+1:=by simp
  have q2:M++[k]++jAw (k+1) r.length=M++jAw k (r.length+1):=by simp[jAw]
  rw[q,q2,show k+1+((r.length:Nat):Int)=k+((r.length+1:Nat):Int) by omega]at ih;generalize hN:(M++x::r).length=N at *;rw[List.length_map,hN]at h2;rw[jCn,List.length_cons];simp only[jg,hN,h1,h2,h3,jCi,h4,e1,h5,ih]
theorem jBH(l:Xi)(k:Int)(h0:0<=k)(hk:k+l.length<=4194304):jCQ (vi k) (l.map ci)=some (.top,[vi (k+(l.length:Nat)),ints (jAw k l.length)]):=by
 have:=jqx l [] k h0 hk (by simp;omega)
 rw[jEv];exact this
theorem jw5(c:kg)(k:Nat)(hw:cwf c)(hk:k+mkC c<=100000000):∃d:kg,jmk (vi (k:Nat)) (c.map jD)=some (.top,[vi ((k+mkC c:Nat):Int),.sl 67 (d.map jD)]):=by
 obtain⟨d,d1,_⟩:=jhT c k hk hw;refine⟨d,?_⟩;rw[jxr];simp only[jg,d1,List.getElem?_cons_zero]
theorem jy8(c:kg)(i side:Int)(d:kg)(k:Int)(p:Xi)(hwc:cwf c)(hwd:cwf d)(hwp:iwf p):G 5 [cm c,vi i,vi side,cm d,vi k,ints p]=some (vb true,[]):=by
 have e1:=jwR c hwc 1048576 (by decide) (by decide);rw[g5];by_cases h0:((p.length:Nat):Int) > 1048576
 .simp only[jg,h0]
 by_cases h1:kL 1048576 ((csz c:Nat):Int)<0
 .simp only[jg,h0,e1,h1]
 obtain⟨b1,b2,b3⟩:=jrf (by decide) (by decide) h1;have e2:=jwR d hwd _ b1 b2;by_cases h2:kL (kL 1048576 ((csz c:Nat):Int)) ((csz d:Nat):Int)<0
 .simp only[jg,h0,e1,h1,e2,h2]
 obtain⟨_,_,d3⟩:=jrf b1 b2 h2;have hsum:csz c+csz d<=1048576:=by
  have hh:=h2;rw[(jB1 (n:=csz d) (by decide) h1).1]at hh;exact(jrf (by decide) (by decide) hh).2.2
 have hcz:Cz c:=Cz.of b3;have hdz:Cz d:=Cz.of d3;have t1:=jma c hcz.1 hcz.2;have t2:=jma d hdz.1 hdz.2;have t3:=jDr p (by omega);have q1:=jqf c hwc;have q2:=jqf d hwd;have q3:=jDB p hwp.2;obtain⟨r,r1,r2,r3⟩:=jB4 c d hcz.1 hcz.2 hdz.1 hdz.2 i side k p (by omega);obtain⟨c',b',hr,hwr,hb1,hb2⟩:=jbP r;rw[hr]at r2;rw[hwr]at r1;obtain⟨w1,w2⟩:cwf c'/\mkC c'<=10000000:=by
  cases b' with
  |true=>exact jlD (r3 _ (hb1 rfl))
  |false=>rw[hb2 rfl];exact⟨⟨λ_ h=>(List.not_mem_nil h).elim,by show 0<=_;omega⟩,by show 0<=_;omega⟩
 have q4:=jqf c' w1;have hm1:=jro c;have hm2:=jro d;unfold csz at hsum;obtain⟨x0,k0⟩:=jw5 c 1 hwc (by omega);obtain⟨x3,k1⟩:=jw5 d (1+mkC c) hwd (by omega);have k2:=jBH p ((1+mkC c+mkC d:Nat):Int) (by omega) (by omega);obtain⟨m,z,m1,m2⟩:=jcC c' w1 (by omega);simp only[Int.natCast_one]at k0;have n1:¬((1+mkC c+mkC d:Nat):Int)+((p.length:Nat):Int)<0:=by omega
 have n2:¬((m:Nat):Int)<0:=by omega
 generalize 1+mkC c+mkC d=K2 at *;generalize 1+mkC c=K1 at *;have fl:∀b:Bool,yb (vb b)=true:=λb=>rfl;have fb:∀b:Bool,fin true (vb b,[])=some (vb b):=λb=>rfl;have fi:∀n:Int,fin true (vi n,[])=some (vi n):=λn=>rfl;simp only[jg,h0,e1,h1,e2,h2,t1,t2,t3,r1,r2,jd0,jqo,fl,fb,fi,q1,q2,q3,q4,k0,k1,k2,n1,m1,m2,n2,List.getElem?_cons_zero]
end Go.Proofs.YtkkcepmpbackoaaGreatDoor
