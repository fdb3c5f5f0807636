/- Pd -/
import Derived.Test.YteoaojbmnibpcaaGreatDoorPb
import Derived.Lib.SplitLaws
import Derived.Lib.ItoaMem
import Derived.Lib.Atoi
namespace Go.Proofs.YteoaojbmnibpcaaGreatDoor
open Go Go.RowKit Go.Proofs.YteoaojbmnibpcaaGreatDoor.Abs
set_option linter.unusedSimpArgs false
set_option linter.unusedVariables false
set_option maxHeartbeats 1000000
theorem K4(a:A)(k:Nat)(r:Xc):hR k (A.top,[a,.sl k r]) 1=some r:=by simp[hR]
theorem jhg(s:Xb):kT (sv s)=true:=rfl
theorem zw(b:Bool):kT (vb b)=true:=rfl
theorem jnV(n:Int):kT (vi n)=true:=rfl
theorem jdM{s:Xb}(hs:s.length<=1048576):jgI (sv s)=some (.top,[vb (lO (Jq s)).1,sv (lO (Jq s)).2.name,vb (Jq s).isSome,.sl 66 ((lO (Jq s)).2.args.map jl)]):=by
 obtain⟨l,k,g,e1,hk,h⟩:=jhO hs;unfold Jq;rw[jt3];generalize hB:KX _ _ _=B;have hB':B=some (A.agg [sv s,vi 0,vb false]):=by rw[<-hB];kernel_rfl
 rw[hB'];have ended:jkf (sv s) (vi (k:Nat)) (vb g)=some (.top,[sv s,vi (k:Nat),vb g,vb (!g && decide (k=s.length))]):=by
  have:decide (((k:Nat):Int)=((s.length:Nat):Int))=decide (k=s.length):=by congr 1;exact propext (by omega)
  rw[jt7,<-this];cases g<;>simp only[jo,Bool.true_and,Bool.false_and]
 rcases h with⟨h1,rfl,h3⟩|⟨h1,h2⟩
 .rw [h1];have hz:=jqD h1;rw[decide_eq_true h3]at ended;have ended:jkf (sv s) (vi (k:Nat)) (vb false)=some (.top,[sv s,vi (k:Nat),vb false,vb true]):=ended;have e2:=Jx l (show Tz l.2 by unfold Tz;omega);simp only;cases ha:jO l.2 with
  |false=>
   rw[ha]at e2;show _=some (A.top,[vb false,sv [],vb false,.sl 66 []]);simp only[jo,e1,ended,e2,List.getElem?_cons_zero,List.getElem?_cons_succ,yE]
  |true=>
   rw[ha]at e2;obtain⟨b1,b2⟩:=jiX ha;have e3:=(ZC (l:=l) b1 b2).2.1;by_cases hf:jJ l=s
   .rw [decide_eq_true hf];show _=some (A.top,[vb l.1,sv l.2.name,vb true,.sl 66 (l.2.args.map jl)]);simp only[jo,e1,ended,e2,e3,hf,List.getElem?_cons_zero,List.getElem?_cons_succ,yE,jb7]
   .rw [decide_eq_false hf];show _=some (A.top,[vb false,sv [],vb false,.sl 66 []]);simp only[jo,e1,ended,e2,e3,hf,List.getElem?_cons_zero,List.getElem?_cons_succ,yE,jb7]
 .rw [h1];have:(!g && decide (k=s.length))=false:=by
   rcases h2 with h|h
   .rw [h];rfl
   .rw [decide_eq_false h,Bool.and_false]
  rw[this]at ended;show _=some (A.top,[vb false,sv [],vb false,.sl 66 []]);simp only[jo,e1,ended,List.getElem?_cons_zero,List.getElem?_cons_succ,yE]
theorem jgd(xs:Xa)(hl:xs.length<=400000)(hx:∀x∈xs,x.length<=1048576):∀i,i<=xs.length-> ∀c:kW,c.length=i->(∀l∈c,tsz l.2<=300)->
  jfp (.sl 1 (xs.map cs)) (vi (xs.length:Nat)) (vi (i:Nat)) [] (c.map kA)=some (.top,[vb (ends c (Jt Jq (xs.drop i))).isSome,.sl 67 ((cO (ends c (Jt Jq (xs.drop i)))).map kA)]):=by
 refine upto ?_ ?_
 .intro c hc hz;have nlt:¬((xs.length:Nat):Int)<((xs.length:Nat):Int):=by omega
  have e1:=JX c (by omega) (λl h=>by have:=hz l h;unfold Tz;omega)
  have e1:G 19 [.agg [.sl 3 (c.map kA)]]=some (vb (ko c),[]):=e1;have hr:ends c (Jt Jq (xs.drop xs.length))=if ko c then some c else none:=by
   rw[List.drop_length];show(if ko (c++[])=true then _ else _)=_;rw[List.append_nil]
  rw[hr,jjt];cases hv:ko c<;>rw[hv]at e1
  .show _=some (A.top,[vb false,.sl 67 []]);generalize c.map kA=R at *;simp only[jo,nlt,e1]
  .show _=some (A.top,[vb true,.sl 67 (c.map kA)]);generalize c.map kA=R at *;simp only[jo,nlt,e1]
 .intro i hi ih c hc hz;have hlt:(i:Int)<((xs.length:Nat):Int):=by omega
  have h5:=jx hi (by omega);have x1:ji 1 (.sl 1 (xs.map cs)) (vi (i:Nat))=some (.elt (cs xs[i]) 0):=jc hi;have e1:=jdM (hx _ (List.getElem_mem hi));have hf:zq ((c.map kA).length+1) 48=true:=jr7 (by rw[List.length_map];omega);rw[jC hi,Jt];generalize xs[i]=x at *;cases h2:Jq x with
  |none=>
   rw[h2]at e1;have e1:jgI (sv x)=some (.top,[vb false,sv [],vb false,.sl 66 []]):=e1;show _=some (A.top,[vb false,.sl 67 []]);rw[jjt];simp only[jo,hlt,x1,ldS,e1,List.getElem?_cons_zero,List.getElem?_cons_succ,jrF,jhg,zw]
  |some l=>
   rw[h2]at e1;have e1:jgI (sv x)=some (.top,[vb l.1,sv l.2.name,vb true,.sl 66 (l.2.args.map jl)]):=e1;have ih:=ih (c++[l]) (by rw[List.length_append,List.length_singleton];omega) (λx hx=>by
    rcases List.mem_append.1 hx with hx|hx
    .exact hz x hx
    .rw [List.mem_singleton.1 hx];exact jqC h2)
   rw[<-jiW]at ih;simp only;rw[jb1,<-ih,jjt];generalize c.map kA=R at *;simp only[jo,hlt,x1,ldS,e1,hf,h5,List.getElem?_cons_zero,List.getElem?_cons_succ,jrF,jhg,zw,kE,kI]
theorem jji{s:Xb}(hs:s.length<=1048576):jna (sv s)=some (.top,[vb (clF Jq s).isSome,.sl 67 ((cO (clF Jq s)).map kA)]):=by
 unfold clF;rw[jvX];by_cases h1:s=jfF
 .have h1':s=[36,102,97,108,115,101]:=h1;rw[if_pos h1];show _=some (A.top,[vb true,.sl 67 []]);simp only[jo,h1']
 .have h1':¬s=[36,102,97,108,115,101]:=h1;rw[if_neg h1];have e1:=jeO (sep:=ku) hs (by decide);have e1:G 21 [sv s,sv [32,124,32]]=_:=e1;have hn:=jeP s.length s (Nat.le_refl _);have key:=jgd (Lib.split s ku) (by omega) (λx hx=>Nat.le_trans (jpo x hx) hs) 0 (Nat.zero_le _) [] rfl (λl h=>by cases h);rw[List.map_nil,List.drop_zero]at key;have he:∀o:Option kW,ends [] o=match o with|some c=>if ko c then some c else none|none=>none:=λo=>by cases o<;>rfl
  rw[he]at key;refine Eq.trans ?_ key;generalize Lib.split s ku=xs at *;simp only[jo,h1',e1];rfl
def kq(b:UInt8):Xb->Xa
 | []=>[[]]
 |c::r=>if c=b then[]::kq b r else match kq b r with
  | []=>[[c]]
  |x::xs=>(c::x)::xs
theorem jdh(b:UInt8)(s:Xb):kq b s≠ []:=by
 cases s with
 |nil=>exact List.cons_ne_nil _ _
 |cons c r=>
  unfold kq;split
  .exact List.cons_ne_nil _ _
  .split<;>exact List.cons_ne_nil _ _
theorem ZU{b:UInt8} :∀{x:Xb}(y:Xb),¬b∈x->kq b (x++b::y)=x::kq b y
 | [],y,_=>by show(if b=b then _ else _)=_;rw[if_pos rfl]
 |c::x,y,h=>by
  have ih:=ZU (x:=x) y λm=>h (List.mem_cons_of_mem _ m);show(if c=b then _ else match kq b (x++b::y)with| []=>[[c]]|z::zs=>(c::z)::zs)=_;rw[if_neg (λe=>h (by rw[e];exact List.mem_cons_self ..)),ih]
theorem jlp{b:UInt8} :∀{x:Xb},¬b∈x->kq b x=[x]
 | [],_=>rfl
 |c::x,h=>by
  have ih:=jlp (x:=x) λm=>h (List.mem_cons_of_mem _ m);show(if c=b then _ else match kq b x with| []=>[[c]]|z::zs=>(c::z)::zs)=_;rw[if_neg (λe=>h (by rw[e];exact List.mem_cons_self ..)),ih]
theorem jix{b:UInt8} :∀{xs:Xa},xs≠ []->(∀x∈xs,¬b∈x)->kq b (Lib.join xs [b])=xs
 | [],h,_=>absurd rfl h
 | [x],_,h=>by rw[Lib.join_one,jlp (h x (by simp))]
 |x::y::r,_,h=>by
  have ih:=jix (b:=b) (xs:=y::r) (by simp) λz hz=>h z (by simp at hz⊢;exact Or.inr hz)
  rw[Yx,List.append_assoc,List.singleton_append,ZU _ (h x (by simp)),ih]
theorem jhu(b c:UInt8)(l:Xb):Lib.index (b::l) [c]=if b=c then 0 else if Lib.index l [c] = -1 then -1 else Lib.index l [c]+1:=by
 show(if[c].isPrefixOf (b::l)=true then _ else if(Lib.index l [c] == -1)=true then _ else _)=_;by_cases h:b=c
 .subst h;simp[List.isPrefixOf]
 .have:¬c=b:=λe=>h e.symm;simp[List.isPrefixOf,h,this]
theorem jeQ(c:UInt8):∀s:Xb,Lib.split s [c]=kq c s
 | []=>rfl
 |b::l=>by
  have ih:=jeQ c l;by_cases h:b=c
  .subst h;show Lib.splitK [b] 0 (Lib.count (b::l) [b]) (b::l)=(if b=b then _ else _);rw[if_pos rfl,Lib.count_cons_eq,Nat.add_comm,Lib.splitK,jhu,if_pos rfl,if_neg (by decide),<-ih];rfl
  .show Lib.splitK [c] 0 (Lib.count (b::l) [c]) (b::l)=(if b=c then _ else match kq c l with| []=>[[b]]|z::zs=>(b::z)::zs);rw[if_neg h,Lib.count_cons_ne _ _ _ h,<-ih];unfold Lib.split;cases hk:Lib.count l [c]with
   |zero=>rfl
   |succ k=>
    have hi:Lib.index l [c]≠ -1:=λe=>by rw[Lib.count_miss e]at hk;cases hk
    have hg:=Lib.index_ge l [c];rw[Lib.splitK,Lib.splitK,jhu,if_neg h,if_neg hi,if_neg (by rw[beq_iff_eq];omega),if_neg (by rw[beq_iff_eq];omega)];simp only;obtain⟨i,hi⟩:∃i:Nat,Lib.index l [c]=i:=⟨(Lib.index l [c]).toNat,by omega⟩;rw[hi,show((i:Int)+1).toNat=i+1 by omega,show((i:Int)).toNat=i by omega];rfl
theorem ZA{n:Nat}(h:n<=99):∃a b:Nat,a<10/\b<10/\n=10*a+b/\Lib.decDigits n=if a=0 then[UInt8.ofNat (48+b)]else[UInt8.ofNat (48+a),UInt8.ofNat (48+b)]:=by
 by_cases h1:n<10
 .exact ⟨0,n,by omega,h1,by omega,by rw[if_pos rfl];exact Lib.decDigits_one h1⟩
 .exact ⟨n / 10,n % 10,by omega,by omega,by omega,by rw[if_neg (by omega)];exact Lib.decDigits_two h1 (by omega)⟩
theorem jnu:∀a:Fin 10,∀b:Fin 10,Lib.atoiAll [UInt8.ofNat (48+a.val),UInt8.ofNat (48+b.val)] = .ok ((10*a.val+b.val:Nat):Int):=by decide
theorem jnr:∀b:Fin 10,Lib.atoiAll [UInt8.ofNat (48+b.val)] = .ok (b.val:Int):=by decide
theorem jew{x:Int}(h:ym 0 99 x=true):kU (dg x)=some x:=by
 obtain⟨n,rfl,hn⟩:=Km h;obtain⟨a,b,ha,hb,e,hd⟩:=ZA hn;have e1:Lib.atoiAll (Lib.decDigits n) = .ok ((n:Nat):Int):=by
  rw[hd];split
  .have:=jnr ⟨b,hb⟩;rw[this];simp only[Lib.NumEnd.ok.injEq];omega
  .rw [jnu ⟨a,ha⟩ ⟨b,hb⟩,e]
 show kU (Lib.decDigits ((n:Nat):Int).toNat)=_;rw[Int.toNat_natCast];unfold kU;rw[e1];simp only;rw[if_pos ⟨by omega,Lib.itoa_nonneg n⟩]
def Qs(s:Xb):Xb:=if 1<s.length/\s.head? = some 45 then s.drop 1 else s
def jdN(s t:Xb)(m:Nat):Int:=if t.length<s.length then -((m:Nat):Int)else((m:Nat):Int)
def jie(s t:Xb):Option Nat->Option Int
 |none=>none
 |some m=>if Lib.itoa (jdN s t m)=s then some (jdN s t m)else none
def yt(s:Xb):Option Int:=if 1<=(Qs s).length/\(Qs s).length<=6 then jie s (Qs s) (Lib.decFrom 0 (Qs s))else none
theorem jqc:∀a:Fin 10,∀b:Fin 10,Lib.decFrom 0 [UInt8.ofNat (48+a.val),UInt8.ofNat (48+b.val)]=some (10*a.val+b.val):=by decide
theorem jqb:∀b:Fin 10,Lib.decFrom 0 [UInt8.ofNat (48+b.val)]=some b.val:=by decide
theorem jcI:∀b:Fin 10,¬UInt8.ofNat (48+b.val)=45/\ ¬UInt8.ofNat (48+b.val)=44/\ ¬UInt8.ofNat (48+b.val)=32/\ ¬UInt8.ofNat (48+b.val)=58:=by decide
theorem jez{x:Int}(h:ym 0 99 x=true):yt (dg x)=some x:=by
 obtain⟨n,rfl,hn⟩:=Km h;obtain⟨a,b,ha,hb,e,hd⟩:=ZA hn;have e1:Lib.decFrom 0 (Lib.decDigits n)=some n:=by
  rw[hd];split
  .have:=jqb ⟨b,hb⟩;rw[this];simp only[Option.some.injEq];omega
  .rw [jqc ⟨a,ha⟩ ⟨b,hb⟩,e]
 have e2:Qs (Lib.decDigits n)=Lib.decDigits n:=by
  unfold Qs;rw[if_neg];rintro⟨_,k⟩;rw[hd]at k;split at k
  .exact (jcI ⟨b,hb⟩).1 (Option.some.inj k)
  .exact (jcI ⟨a,ha⟩).1 (Option.some.inj k)
 have e3:1<=(Lib.decDigits n).length/\(Lib.decDigits n).length<=6:=by rw[hd];split<;>simp
 show yt (Lib.decDigits ((n:Nat):Int).toNat)=_;rw[Int.toNat_natCast];unfold yt;have e4:jdN (Lib.decDigits n) (Lib.decDigits n) n=((n:Nat):Int):=by unfold jdN;rw[if_neg (Nat.lt_irrefl _)]
 rw[e2,if_pos e3,e1];unfold jie;simp only;rw[e4,if_pos (Lib.itoa_nonneg n)]
theorem ji8{x:Int}(h:ym 0 99 x=true){c:UInt8}(hc:c∈dg x):¬c=45/\ ¬c=44/\ ¬c=32/\ ¬c=58:=by
 obtain⟨n,rfl,hn⟩:=Km h;obtain⟨a,b,ha,hb,e,hd⟩:=ZA hn;have hc:c∈Lib.decDigits ((n:Nat):Int).toNat:=hc;rw[Int.toNat_natCast,hd]at hc;split at hc
 .rw [List.mem_singleton.1 hc];exact jcI ⟨b,hb⟩
 .rcases List.mem_cons.1 hc with rfl|hc
  .exact jcI ⟨a,ha⟩
  .rw [List.mem_singleton.1 hc];exact jcI ⟨b,hb⟩
def Z3(f:Xb->Option Int):Xa->Option Xi
 | []=>some []
 |x::r=>match f x with
  |none=>none
  |some n=>(Z3 f r).map λl=>n::l
theorem jdU{f:Xb->Option Int} :∀l:Xi,(∀x∈l,f (dg x)=some x)->Z3 f (l.map dg)=some l
 | [],_=>rfl
 |x::l,h=>by
  rw[List.map_cons,Z3,h x (by simp)];simp only;rw[jdU l λy hy=>h y (by simp[hy])];rfl
def rdN(f:Xb->Option Int)(s:Xb):Option Xi:=if s=[45]then some []else Z3 f (kq 44 s)
theorem QA{f:Xb->Option Int}(hf:∀x,ym 0 99 x=true->f (dg x)=some x){l:Xi}(h:listed l=true):rdN f (kR l)=some l:=by
 obtain⟨h1,h2⟩:=kZ h;unfold rdN kR;by_cases h0:l=[]
 .rw [if_pos h0,if_pos rfl,h0]
 .rw [if_neg h0];show(if Lib.join (l.map dg) [44]=[45]then _ else Z3 f (kq 44 (Lib.join (l.map dg) [44])))=_;have hne:¬Lib.join (l.map dg) [44]=[45]:=λe=>by
   have m:(45:UInt8)∈Lib.join (l.map dg) [44]:=by rw[e];exact List.mem_singleton.2 rfl
   rcases K9 m with m|⟨x,hx,m⟩
   .revert m;decide
   .obtain ⟨y,hy,rfl⟩:=List.mem_map.1 hx;exact(ji8 (h2 y hy) m).1 rfl
  rw[if_neg hne,jix (by simpa using h0) (λx hx=>by
   obtain⟨y,hy,rfl⟩:=List.mem_map.1 hx;exact λm=>(ji8 (h2 y hy) m).2.1 rfl),jdU l λx hx=>hf x (h2 x hx)]
theorem Qf{l:Xi}(h:listed l=true){c:UInt8}(hc:c∈kR l):¬c=32/\ ¬c=58:=by
 obtain⟨h1,h2⟩:=kZ h;unfold kR at hc;split at hc
 .rw [List.mem_singleton.1 hc];decide
 .rcases K9 hc with m|⟨x,hx,m⟩
  .rw [List.mem_singleton.1 m];decide
  .obtain ⟨y,hy,rfl⟩:=List.mem_map.1 hx;exact(ji8 (h2 y hy) m).2.2
theorem jql{l:Xi}(h:listed l=true):kR l≠ []:=by
 unfold kR;split
 .exact List.cons_ne_nil _ _
 .rename_i h0;exact jfP (by simpa using h0) λx hx=>by obtain⟨y,hy,rfl⟩:=List.mem_map.1 hx;exact jrC y
def Jc(s:Xb)(p q:Option Xi)(c:Option kW)(r:Int):Option Stp:=
 match p,q,c with
 |some p,some q,some c=>if jN ⟨r,p,q,c⟩=true/\kD ⟨r,p,q,c⟩=s then some ⟨r,p,q,c⟩else none
 |_,_,_=>none
theorem jcr{s:Xb}{p q:Option Xi}{c:Option kW}{r:Int}{st:Stp}(h:Jc s p q c r=some st):jN st=true/\kD st=s:=by
 unfold Jc at h;split at h
 .split at h
  .rename_i hv;cases h;exact hv
  .cases h
 .cases h
theorem jec{st:Stp}(h:jN st=true):Jc (kD st) (some st.par) (some st.whr) (some st.cls) st.rule=some st:=by
 show(if jN ⟨st.rule,st.par,st.whr,st.cls⟩=true/\kD ⟨st.rule,st.par,st.whr,st.cls⟩=kD st then _ else _)=_;rw[if_pos ⟨h,rfl⟩]
theorem JE{st:Stp}(h:jN st=true):(∃k:Nat,st.rule=(k:Nat)/\1<=k/\k<=6)/\listed st.par=true/\listed st.whr=true/\ko st.cls=true:=by
 unfold jN ym at h;simp only[Bool.and_eq_true,decide_eq_true_eq]at h;exact⟨⟨st.rule.toNat,by omega,by omega,by omega⟩,h.2.1,h.2.2.1,h.2.2.2⟩
theorem jan(k:Nat):jio (k:Int)=RL.getD k []:=by unfold jio;rw[Int.toNat_natCast]
theorem YM:∀k:Fin 7,1<=k.val->(∀c∈RL.getD k.val [],¬c=32/\ ¬c=58)/\(RL.getD k.val []).length<=9:=by decide
def ja5(w:Xb)(i:Nat)(r:Int):Int:=if w=RL.getD i []then(i:Nat)else r
def jc8(w:Xb):Int:=ja5 w 6 (ja5 w 5 (ja5 w 4 (ja5 w 3 (ja5 w 2 (ja5 w 1 0)))))
def Kt(w:Xb):Xa->Int->Int
 | [],_=> -1
 |x::r,i=>if w=x then i else Kt w r (i+1)
theorem jeG:∀k:Fin 7,1<=k.val->jc8 (RL.getD k.val [])=(k.val:Int)/\Kt (RL.getD k.val []) RL 0=(k.val:Int):=by decide
def wd(ws:Xa)(i:Nat):Xb:=ws.getD i []
def zM(s:Xb):Option Stp:=
 if 4000<s.length\/(kq 32 s).length<5\/wd (kq 32 s) 3=[]then none else
 Jc s (rdN yt (wd (kq 32 s) 1)) (rdN yt ((wd (kq 32 s) 3).take ((wd (kq 32 s) 3).length-1)))
  (clF zp (s.drop ((wd (kq 32 s) 0).length+(wd (kq 32 s) 1).length+(wd (kq 32 s) 2).length+(wd (kq 32 s) 3).length+4))) (jc8 (wd (kq 32 s) 0))
def c1(s:Xb):=Lib.cut s [58,32]
def c2(s:Xb):=Lib.cut (c1 s).1 [32,97,116,32]
def c3(s:Xb):=Lib.cut (c2 s).1 [32]
def K6(s:Xb):Option Stp:=
 if(c1 s).2.2=true/\(c2 s).2.2=true/\(c3 s).2.2=true then
  Jc s (rdN kU (c3 s).2.1) (rdN kU (c2 s).2.1) (clF Jq (c1 s).2.1) (Kt (c3 s).1 RL 0)
 else none
theorem jlQ{st:Stp}(h:jN st=true):(kD st).length<=4000:=by
 obtain⟨⟨k,hk,h1,h6⟩,hp,hw,hc⟩:=JE h;have l1:=(YM ⟨k,by omega⟩ h1).2;have l2:=ZD hp;have l3:=ZD hw;have l4:=jp4 hc;unfold kD;rw[hk,jan];simp only[List.length_append,List.length_cons,List.length_nil];simp only at l1;omega
theorem jmO{st:Stp}(h:jN st=true):zM (kD st)=some st:=by
 obtain⟨⟨k,hk,h1,h6⟩,hp,hw,hc⟩:=JE h;have hl:=jlQ h;have kf:=jec h;obtain⟨f1,_⟩:=YM ⟨k,by omega⟩ h1;have f2:=(jeG ⟨k,by omega⟩ h1).1;simp only at f1 f2;have e1:=QA (λx hx=>jez hx) hp;have e2:=QA (λx hx=>jez hx) hw;have e3:=jg4 hc;have n1:=λ{c} =>Qf (c:=c) hp;have n2:=λ{c} =>Qf (c:=c) hw;have hs:kD st=RL.getD k []++32::(kR st.par++32::([97,116]++32::((kR st.whr++[58])++32::fmtC st.cls))):=by
  unfold kD;rw[hk,jan];simp only[List.append_assoc,List.cons_append,List.nil_append]
 have hw3:¬(32:UInt8)∈kR st.whr++[58]:=λm=>by
  rcases List.mem_append.1 m with m|m
  .exact (n2 m).1 rfl
  .revert m;decide
 have hsp:kq 32 (kD st)=RL.getD k []::kR st.par::[97,116]::(kR st.whr++[58])::kq 32 (fmtC st.cls):=by
  rw[hs,ZU _ (λm=>(f1 _ m).1 rfl),ZU _ (λm=>(n1 m).1 rfl),ZU _ (by decide),ZU _ hw3]
 have hlen:¬(kq 32 (kD st)).length<5:=by
  rw[hsp];have:=List.length_pos_iff.2 (jdh 32 (fmtC st.cls));simp only[List.length_cons];omega
 have w0:wd (kq 32 (kD st)) 0=RL.getD k []:=by rw[hsp];rfl
 have w1:wd (kq 32 (kD st)) 1=kR st.par:=by rw[hsp];rfl
 have w2:wd (kq 32 (kD st)) 2=[97,116]:=by rw[hsp];rfl
 have w3:wd (kq 32 (kD st)) 3=kR st.whr++[58]:=by rw[hsp];rfl
 have hd:(kD st).drop ((RL.getD k []).length+(kR st.par).length + [97,(116:UInt8)].length+(kR st.whr++[58]).length+4)=fmtC st.cls:=by
  have:kD st=(RL.getD k []++[32]++kR st.par++[32,97,116,32]++kR st.whr++[58,32])++fmtC st.cls:=by
   rw[hs];simp only[List.append_assoc,List.cons_append,List.nil_append]
  have hlen2:(RL.getD k []).length+(kR st.par).length + [97,(116:UInt8)].length+(kR st.whr++[58]).length+4=(RL.getD k []++[32]++kR st.par++[32,97,116,32]++kR st.whr++[58,32]).length:=by
   simp only[List.length_append,List.length_cons,List.length_nil];omega
  rw[this,hlen2,List.drop_left]
 unfold zM;rw[w0,w1,w2,w3,if_neg (by rintro(h|h|h);omega;exact hlen h;simp at h),hd,e3,e1];rw[List.length_append,List.length_singleton,Nat.add_sub_cancel,List.take_left,e2,f2,<-hk];exact kf
theorem jkD{x y sep:Xb}{c:UInt8}{t:Xb}(hs:sep=c::t)(hx:¬c∈x):Lib.cut (x++sep++y) sep=(x,y,true):=by
 unfold Lib.cut;rw[jd5 hs hx,if_pos (by omega),Int.toNat_natCast];rw[show(x++sep++y).take x.length=x by rw[List.append_assoc,List.take_left],show x.length+sep.length=(x++sep).length by rw[List.length_append],List.drop_left]
theorem jsL{x z y:Xb}(hx:¬(32:UInt8)∈x)(hz:¬(32:UInt8)∈z)(h0:∀q,¬z=97::q)(hne:z≠ []):Lib.cut (x++[32]++z++[32,97,116,32]++y) [32,97,116,32]=(x++[32]++z,y,true):=by
 have hi:Lib.index (x++[32]++z++[32,97,116,32]++y) [32,97,116,32]=((x++[32]++z).length:Nat):=by
  refine Lib.index_first (by simp only[List.length_append];omega) ?_ λj hj=>?_
  .unfold Lib.occAt;rw[List.append_assoc (x++[32]++z),List.drop_left];exact List.isPrefixOf_iff_prefix.2 ⟨y,rfl⟩
  .cases h:Lib.occAt (x++[32]++z++[32,97,116,32]++y) [32,97,116,32] j with
   |false=>rfl
   |true=>
    exfalso;have k1:=Lib.occAt_head rfl h;have k2:=Lib.occAt_second rfl h;rw[List.append_assoc,List.getElem?_append_left hj]at k1;simp only[List.length_append,List.length_cons,List.length_nil]at hj;rcases Nat.lt_trichotomy j x.length with hj2|hj2|hj2
    .rw [List.append_assoc,List.getElem?_append_left hj2]at k1;exact hx (List.mem_of_getElem? k1)
    .subst hj2;rw[show x++[32]++z++[32,97,116,32]++y=x++(32::(z++[32,97,116,32]++y)) by simp only[List.append_assoc,List.cons_append,List.nil_append],List.getElem?_append_right (by omega)]at k2;rw[show x.length+1-x.length=1 by omega]at k2;cases z with
     |nil=>exact hne rfl
     |cons a q=>
      have k2:some a=some (97:UInt8):=k2;exact h0 q (by rw[Option.some.inj k2])
    .rw [List.append_assoc,List.getElem?_append_right (by omega),List.singleton_append,show j-x.length=(j-x.length-1)+1 by omega,List.getElem?_cons_succ]at k1;exact hz (List.mem_of_getElem? k1)
 unfold Lib.cut;rw[hi,if_pos (by omega),Int.toNat_natCast];have q1:(x++[32]++z++[32,97,116,32]++y).take (x++[32]++z).length=x++[32]++z:=by rw[List.append_assoc (x++[32]++z),List.take_left]
 have q2:(x++[32]++z).length + [32,97,116,(32:UInt8)].length=(x++[32]++z++[32,97,116,32]).length:=by rw[List.length_append (bs:=[32,97,116,32])]
 rw[q1,q2,List.drop_left]
theorem jug{l:Xi}(h:listed l=true):∀q,¬kR l=97::q:=by
 obtain⟨h1,h2⟩:=kZ h;intro q e;have m:(97:UInt8)∈kR l:=by rw[e];exact List.mem_cons_self ..
 unfold kR at m;split at m
 .revert m;decide
 .rcases K9 m with m|⟨x,hx,m⟩
  .revert m;decide
  .obtain ⟨y,hy,rfl⟩:=List.mem_map.1 hx;obtain⟨n,rfl,hn⟩:=Km (h2 y hy);obtain⟨a,b,ha,hb,_,hd⟩:=ZA hn;have m:(97:UInt8)∈Lib.decDigits ((n:Nat):Int).toNat:=m;rw[Int.toNat_natCast,hd]at m;have k:∀b:Fin 10,¬(97:UInt8)=UInt8.ofNat (48+b.val):=by decide
   split at m
   .exact k ⟨b,hb⟩ (List.mem_singleton.1 m)
   .rcases List.mem_cons.1 m with m|m
    .exact k ⟨a,ha⟩ m
    .exact k ⟨b,hb⟩ (List.mem_singleton.1 m)
theorem jlT{st:Stp}(h:jN st=true):K6 (kD st)=some st:=by
 obtain⟨⟨k,hk,h1,h6⟩,hp,hw,hc⟩:=JE h;have kf:=jec h;obtain⟨f1,_⟩:=YM ⟨k,by omega⟩ h1;have f2:=(jeG ⟨k,by omega⟩ h1).2;simp only at f1 f2;have e1:=QA (λx hx=>jew hx) hp;have e2:=QA (λx hx=>jew hx) hw;have e3:clF Jq (fmtC st.cls)=some st.cls:=by rw[jkB];exact jg4 hc
 have n1:=λ{c} =>Qf (c:=c) hp;have n2:=λ{c} =>Qf (c:=c) hw;have x1:c1 (kD st)=(RL.getD k []++[32]++kR st.par++[32,97,116,32]++kR st.whr,fmtC st.cls,true):=by
  unfold c1 kD;rw[hk,jan];refine jkD rfl λm=>?_;simp only[List.mem_append]at m;rcases m with(((m|m)|m)|m)|m
  .exact (f1 _ m).2 rfl
  .revert m;decide
  .exact (n1 m).2 rfl
  .revert m;decide
  .exact (n2 m).2 rfl
 have x2:c2 (kD st)=(RL.getD k []++[32]++kR st.par,kR st.whr,true):=by
  unfold c2;rw[x1];have:=jsL (x:=RL.getD k []) (z:=kR st.par) (y:=kR st.whr) (λm=>(f1 _ m).1 rfl) (λm=>(n1 m).1 rfl) (jug hp) (jql hp);exact this
 have x3:c3 (kD st)=(RL.getD k [],kR st.par,true):=by
  unfold c3;rw[x2];exact jkD rfl λm=>(f1 _ m).1 rfl
 unfold K6;rw[x1,x2,x3,if_pos ⟨rfl,rfl,rfl⟩];simp only;rw[e1,e2,e3,f2,<-hk];exact kf
theorem jdg{s:Xb}{st:Stp}(h:zM s=some st):jN st=true/\kD st=s:=by
 unfold zM at h;split at h
 .cases h
 .exact jcr h
theorem jjj{s:Xb}{st:Stp}(h:K6 s=some st):jN st=true/\kD st=s:=by
 unfold K6 at h;split at h
 .exact jcr h
 .cases h
theorem jmC(s:Xb):K6 s=zM s:=by
 cases h:K6 s with
 |some st=>
  obtain⟨h1,rfl⟩:=jjj h;exact(jmO h1).symm
 |none=>
  cases h2:zM s with
  |none=>rfl
  |some st=>
   obtain⟨k1,rfl⟩:=jdg h2;rw[jlT k1]at h;cases h
def glue(p:Xb):Xa->Xa
 | []=>[p]
 |x::xs=>(p++x)::xs
theorem jhl(b:UInt8)(s:Xb):glue [] (kq b s)=kq b s:=by
 cases h:kq b s with
 |nil=>exact absurd h (jdh b s)
 |cons x xs=>rfl
theorem jlS{b c:UInt8}(p q:Xb)(h:¬c=b):glue p (kq b (c::q))=glue (p++[c]) (kq b q):=by
 show glue p (if c=b then _ else match kq b q with| []=>[[c]]|x::xs=>(c::x)::xs)=_;rw[if_neg h];cases h2:kq b q with
 |nil=>exact absurd h2 (jdh b q)
 |cons x xs=>show(p++c::x)::xs=(p++[c]++x)::xs;rw[List.append_assoc];rfl
theorem jnZ{b:UInt8}(p q:Xb):glue p (kq b (b::q))=p::kq b q:=by
 show glue p (if b=b then _ else _)=_;rw[if_pos rfl];show(p++[])::_=_;rw[List.append_nil]
theorem jmP{s:Xb}(hs:s.length<=1048576)(b:UInt8):∀i,i<=s.length-> ∀(a:Nat)(out:Xa),a<=i->out.length<=i->
  jgK (sv s) (vy (b.toNat:Int)) (vi (a:Nat)) (vi (i:Nat)) (out.map cs)=some (.sl 1 ((out++glue ((s.take i).drop a) (kq b (s.drop i))).map cs),[]):=by
 refine upto ?_ ?_
 .intro a out ha ho;have nlt:¬((s.length:Nat):Int)<((s.length:Nat):Int):=by omega
  have s1:=jjW (s:=s) ha;have f1:zq ((out.map cs).length+1) 16=true:=jh4 (by rw[List.length_map];omega);have hr:out++glue ((s.take s.length).drop a) (kq b (s.drop s.length))=out++[s.drop a]:=by
   rw[List.take_length,List.drop_length];show out++[s.drop a++[]]=_;rw[List.append_nil]
  rw[hr,<-jbO,jop];generalize out.map cs=R at *;simp only[jo,nlt,s1,f1]
 .intro i hi ih a out ha ho;have hlt:(i:Int)<((s.length:Nat):Int):=by omega
  have h5:=jx hi (by omega);obtain⟨_,hq,hx⟩:=drop_at (jC hi);have hd:s.drop i=s[i]::s.drop (i+1):=jC hi;have htk:s.take (i+1)=s.take i++[s[i]]:=List.take_succ_eq_append_getElem hi;rw[hd];generalize s[i]=c at *;by_cases hc:c=b
  .subst hc;have s1:=jrf (s:=s) ha (Nat.le_of_lt hi);have ih:=ih (i+1) (out++[(s.take i).drop a]) (Nat.le_refl _) (by rw[List.length_append,List.length_singleton];omega);have e0:(s.take (i+1)).drop (i+1)=[]:=List.drop_eq_nil_of_le (by rw[List.length_take];omega);rw[e0,jhl,List.append_assoc,List.singleton_append,<-jbO]at ih;have f1:zq ((out.map cs).length+1) 16=true:=jh4 (by rw[List.length_map];omega);rw[jnZ,<-ih,jop];generalize out.map cs=R at *;generalize (s.take i).drop a=p at *;simp only[jo,hlt,hx,s1,f1,h5]
  .have ih:=ih a out (by omega) (by omega);have e0:(s.take (i+1)).drop a=(s.take i).drop a++[c]:=by
    rw[htk,List.drop_append_of_le_length (by rw[List.length_take];omega)]
   have hne:¬(c.toNat:Int)=(b.toNat:Int):=je1 hc;rw[e0]at ih;rw[jlS _ _ hc,<-ih,jop];simp only[jo,hlt,hx,hne,h5]
theorem jlo{s:Xb}(hs:s.length<=1048576)(b:UInt8):G 31 [sv s,vy (b.toNat:Int)]=some (.sl 1 ((kq b s).map cs),[]):=by
 have key:=jmP hs b 0 (Nat.zero_le _) 0 [] (Nat.le_refl _) (Nat.le_refl _);rw[List.take_zero,List.drop_nil,List.drop_zero,jhl,List.nil_append,List.map_nil]at key;rw[g31];exact key
theorem jbA(b:UInt8):∀s:Xb,(kq b s).length<=s.length+1
 | []=>Nat.le_refl _
 |c::r=>by
  have ih:=jbA b r;show(if c=b then[]::kq b r else match kq b r with| []=>[[c]]|x::xs=>(c::x)::xs).length<=_;split
  .simp only[List.length_cons];omega
  .cases h:kq b r with
   |nil=>simp
   |cons x xs=>rw[h]at ih;simp only[List.length_cons]at ih⊢;omega
theorem jgs(b:UInt8):∀(s:Xb),∀x∈kq b s,x.length<=s.length
 | [],x,h=>by rw[List.mem_singleton.1 (show x ∈ [[]] from h)];exact Nat.le_refl _
 |c::r,x,h=>by
  have ih:=jgs b r;have h:x∈(if c=b then[]::kq b r else match kq b r with| []=>[[c]]|x::xs=>(c::x)::xs):=h;split at h
  .rcases List.mem_cons.1 h with rfl|h
   .exact Nat.zero_le _
   .have:=ih x h;simp only[List.length_cons];omega
  .cases h2:kq b r with
   |nil=>exact absurd h2 (jdh b r)
   |cons y ys=>
    rw[h2]at h ih;simp only at h;rcases List.mem_cons.1 h with rfl|h
    .have:=ih y (by simp);simp only[List.length_cons];omega
    .have:=ih x (by simp[h]);simp only[List.length_cons];omega
theorem jdt{x:Int}(h1: -1000000000<=x)(h2:x<=1000000000):JA .neg (vi x)=some (vi (-x)):=by
 show some (vi (IntKind.i64.wrap (0-x)))=_;have:IntKind.i64.wrap (0-x) = -x:=by
  unfold IntKind.wrap;simp only[IntKind.bits,IntKind.signed]
  first|omega|(simp;omega)
 rw[this]
theorem jk4{n:Int}(h1: -1000000<=n)(h2:n<=1000000):G 47 [vi n]=some (sv (Lib.itoa n),[]):=by
 by_cases h0:n<0
 .have e1:=jjp n.natAbs (by omega);have e2:((n.natAbs:Nat):Int) = -n:=by omega
  have e3:=jdt (x:=n) (by omega) (by omega);rw[e2]at e1;have hi:Lib.itoa n=[45]++Lib.decDigits n.natAbs:=by unfold Lib.itoa;rw[if_pos h0];rfl
  have hl:(Lib.decDigits n.natAbs).length<=100:=by
   have:∀u:Nat,(Lib.decDigits u).length<=u+1:=by
    intro u;induction u using Nat.strongRecOn with
    |ind u ih=>
     rw[Lib.decDigits];split
     .simp
     .have:=ih (u / 10) (by omega);rw[List.length_append,List.length_singleton];omega
   rw[Lib.decDigits_length];have h7:∀u:Nat,u<=9999999->Lib.nDigits u<=7:=by
    intro u hu
    iterate 6 (rw[Lib.nDigits];split;· omega)
    rw[Lib.nDigits_small (by omega)]
    all_goals decide
   have:=h7 n.natAbs (by omega);omega
  have a1:=qh false (x:=[45]) (y:=Lib.decDigits n.natAbs) (by simp only[List.length_cons,List.length_nil];omega)
  rw[hi,g47];generalize Lib.decDigits n.natAbs=D at *;simp only[jo,h0,e3,e1,a1]
 .have e1:=jjp n.toNat (by omega);have e2:((n.toNat:Nat):Int)=n:=by omega
  have hi:Lib.itoa n=Lib.decDigits n.toNat:=by unfold Lib.itoa;rw[if_neg h0]
  rw[e2]at e1;rw[hi];exact e1
theorem jv4{c:UInt8}(h1:48<=c.toNat)(h2:c.toNat<=57):Lib.digitVal c=some (c.toNat-48):=by unfold Lib.digitVal;rw[if_pos ⟨h1,h2⟩]
theorem jpE:∀k:Fin 10,IntKind.u8.wrap (((48+k.val:Nat):Int)-48)=((48+k.val-48:Nat):Int):=by decide
theorem jv3{c:UInt8}(h1:48<=c.toNat)(h2:c.toNat<=57):jw .sub false (vy (c.toNat:Int)) (vy 48)=some (vy ((c.toNat-48:Nat):Int)):=by
 have:jw .sub false (vy (c.toNat:Int)) (vy 48)=some (vy (IntKind.u8.wrap ((c.toNat:Int)-48))):=rfl;rw[this];obtain⟨k,hk,e⟩:∃k:Nat,k<10/\c.toNat=48+k:=⟨c.toNat-48,by omega,by omega⟩;rw[e,jpE ⟨k,hk⟩]
theorem juf{n:Nat}(h:n<=255):jcN .i64 (vy (n:Nat))=some (vi (n:Nat)):=zo (by omega) (by omega)
def jmd(o:Option Int):Out:=(.tup [vi (o.getD 0),vb o.isSome],[])
theorem jmB{s t:Xb}(ht:t.length<=6)(hs:s.length<=1048576):∀i,i<=t.length-> ∀m:Nat,m<10 ^ i->
  jdQ (sv s) (sv t) (vi (m:Nat)) (vi (i:Nat))=some (jmd (jie s t (Lib.decFrom m (t.drop i)))):=by
 have hp:∀i,i<=6->10 ^ i<=1000000:=by decide
 refine upto ?_ ?_
 .intro m hm;have hm2:=hp _ ht;have nlt:¬((t.length:Nat):Int)<((t.length:Nat):Int):=by omega
  rw[List.drop_length];show _=some (jmd (if Lib.itoa (jdN s t m)=s then some (jdN s t m)else none));rw[jrR];by_cases hl:t.length<s.length
  .have hl':((t.length:Nat):Int)<((s.length:Nat):Int):=by omega
   have e0:jdN s t m = -((m:Nat):Int):=by unfold jdN;rw[if_pos hl]
   have e1:=jdt (x:=((m:Nat):Int)) (by omega) (by omega);have e2:=jk4 (n:= -((m:Nat):Int)) (by omega) (by omega);rw[e0];by_cases h:Lib.itoa (-((m:Nat):Int))=s
   .rw [if_pos h];show _=some (A.tup [vi (-((m:Nat):Int)),vb true],[]);simp only[jo,nlt,hl',e1,e2,h]
   .rw [if_neg h];show _=some (A.tup [vi 0,vb false],[]);simp only[jo,nlt,hl',e1,e2,h]
  .have hl':¬((t.length:Nat):Int)<((s.length:Nat):Int):=by omega
   have e0:jdN s t m=((m:Nat):Int):=by unfold jdN;rw[if_neg hl]
   have e2:=jk4 (n:=((m:Nat):Int)) (by omega) (by omega);rw[e0];by_cases h:Lib.itoa ((m:Nat):Int)=s
   .rw [if_pos h];show _=some (A.tup [vi ((m:Nat):Int),vb true],[]);simp only[jo,nlt,hl',e2,h]
   .rw [if_neg h];show _=some (A.tup [vi 0,vb false],[]);simp only[jo,nlt,hl',e2,h]
 .intro i hi ih m hm;have hm2:=hp i (by omega);have hlt:(i:Int)<((t.length:Nat):Int):=by omega
  have h5:=jx hi (by omega);obtain⟨_,_,hx⟩:=drop_at (jC hi);have hd:t.drop i=t[i]::t.drop (i+1):=jC hi;rw[hd];generalize t[i]=c at *;show _=some (jmd (jie s t (match Lib.digitVal c with|some d=>Lib.decFrom (m*10+d) (t.drop (i+1))|none=>none)));rw[jrR];by_cases h1:48<=c.toNat
  .by_cases h2:c.toNat<=57
   .have n1:¬(c.toNat:Int)<48:=by omega
    have n2:¬(57:Int)<(c.toNat:Int):=by omega
    have e2:=jv4 h1 h2;have e1:=jv3 h1 h2;have e3:=juf (n:=c.toNat-48) (by omega);have e4:ck (10*((m:Nat):Int))=some (vi (10*((m:Nat):Int))):=zo (by omega) (by omega);have e5:ck (10*((m:Nat):Int)+((c.toNat-48:Nat):Int))=some (vi ((m*10+(c.toNat-48):Nat):Int)):=by
     rw[zo (by omega) (by omega)];congr 2;omega
    have ih:=ih (m*10+(c.toNat-48)) (by rw[Nat.pow_succ];omega)
    rw[e2];simp only;rw[<-ih];simp only[jo,hlt,hx,n1,n2,e1,e3,e4,e5,h5]
   .have n1:¬(c.toNat:Int)<48:=by omega
    have n2:(57:Int)<(c.toNat:Int):=by omega
    have e2:Lib.digitVal c=none:=by unfold Lib.digitVal;rw[if_neg (λh=>h2 h.2)]
    rw[e2];show _=some (A.tup [vi 0,vb false],[]);simp only[jo,hlt,hx,n1,n2]
  .have n1:(c.toNat:Int)<48:=by omega
   have e2:Lib.digitVal c=none:=by unfold Lib.digitVal;rw[if_neg (λh=>h1 h.1)]
   rw[e2];show _=some (A.tup [vi 0,vb false],[]);simp only[jo,hlt,hx,n1]
theorem jlW{s:Xb}(hs:s.length<=1048576):G 63 [sv s]=some (jmd (yt s)):=by
 have fin:∀t:Xb,t.length<=s.length-> ∀B:Xe,B=(if 1<=t.length/\t.length<=6 then jdQ (sv s) (sv t) (vi 0) (vi 0)else some (jmd none))->B=some (jmd (if 1<=t.length/\t.length<=6 then jie s t (Lib.decFrom 0 t)else none)):=by
  intro t _ B hB;rw[hB];split
  .rename_i h;have:=jmB (s:=s) h.2 hs 0 (Nat.zero_le _) 0 (by decide);rw[List.drop_zero]at this;exact this
  .rfl
 have inb:∀t:Xb,ym 1 6 ((t.length:Nat):Int)=decide (1<=t.length/\t.length<=6):=by
  intro t;unfold ym;by_cases h:1<=t.length/\t.length<=6
  .rw [decide_eq_true h,Bool.and_eq_true,decide_eq_true_eq,decide_eq_true_eq];omega
  .rw [decide_eq_false h,Bool.and_eq_false_iff,decide_eq_false_iff_not,decide_eq_false_iff_not];omega
 unfold yt;refine fin (Qs s) (by unfold Qs;split<;>simp) _ ?_;rw[g63];by_cases h1:1<s.length
 .have h1':(1:Int)<((s.length:Nat):Int):=by omega
  cases s with
  |nil=>simp at h1
  |cons c q=>
   obtain⟨_,_,hx⟩:=drop_at (s:=c::q) (i:=0) (c:=c) (q:=q) rfl;have z0:((0:Nat):Int)=0:=rfl;rw[z0]at hx;by_cases hc:c=45
   .subst hc;have hx:jK (sv (45::q)) (vi 0)=some (vy 45):=hx;have hm:Qs (45::q)=q:=by unfold Qs;rw[if_pos ⟨h1,rfl⟩];rfl
    have s1:jX (sv (45::q)) (some (vi 1)) none=some (sv q):=jjW (s:=45::q) (a:=1) (by simp);have e1:=qF ((q.length:Nat):Int) 1 6;rw[inb q]at e1;rw[hm];generalize (45:UInt8)::q=s at *;by_cases h:1<=q.length/\q.length<=6
    .rw [if_pos h];rw[decide_eq_true h]at e1;simp only[jo,h1',hx,s1,e1]
    .rw [if_neg h];rw[decide_eq_false h]at e1;show _=some (A.tup [vi 0,vb false],[]);simp only[jo,h1',hx,s1,e1]
   .have hm:Qs (c::q)=c::q:=by unfold Qs;rw[if_neg (λh=>hc (Option.some.inj h.2))]
    have hne:¬(c.toNat:Int)=45:=je1 (k:=45) hc;have e1:=qF (((c::q).length:Nat):Int) 1 6;rw[inb (c::q)]at e1;rw[hm];generalize c::q=s at *;by_cases h:1<=s.length/\s.length<=6
    .rw [if_pos h];rw[decide_eq_true h]at e1;simp only[jo,h1',hx,hne,e1]
    .rw [if_neg h];rw[decide_eq_false h]at e1;show _=some (A.tup [vi 0,vb false],[]);simp only[jo,h1',hx,hne,e1]
 .have h1':¬(1:Int)<((s.length:Nat):Int):=by omega
  have hm:Qs s=s:=by unfold Qs;rw[if_neg (λh=>h1 h.1)]
  have e1:=qF ((s.length:Nat):Int) 1 6;rw[inb s]at e1;rw[hm];by_cases h:1<=s.length/\s.length<=6
  .rw [if_pos h];rw[decide_eq_true h]at e1;simp only[jo,h1',e1]
  .rw [if_neg h];rw[decide_eq_false h]at e1;show _=some (A.tup [vi 0,vb false],[]);simp only[jo,h1',e1]
theorem jkv(l:Xi)(n:Int):J4 (l.map ci) [[vi n]]=(l++[n]).map ci:=by rw[List.map_append];rfl
theorem juI{n:Nat}(h:n<=2097153):zq n 8=true:=by
 unfold zq;simp;omega
def jfB(l:Xi):Option Xi->Option Xi
 |none=>none
 |some r=>some (l++r)
theorem jha(l:Xi)(n:Int)(o:Option Xi):jfB l (o.map λr=>n::r)=jfB (l++[n]) o:=by
 cases o with
 |none=>rfl
 |some r=>show some (l++n::r)=some (l++[n]++r);rw[List.append_assoc];rfl
theorem jhb(o:Option Xi):jfB [] o=o:=by cases o<;>rfl
def iO(o:Option Xi):Xi:=o.getD []
theorem jjO(xs:Xa)(hl:xs.length<=1048577)(hx:∀x∈xs,x.length<=1048576):∀i,i<=xs.length-> ∀l:Xi,l.length=i->
  jkj (.sl 1 (xs.map cs)) (vi (i:Nat)) (l.map ci)=some (.tup [ints (iO (jfB l (Z3 yt (xs.drop i)))),vb (jfB l (Z3 yt (xs.drop i))).isSome],[]):=by
 refine upto ?_ ?_
 .intro l hc;have nlt:¬((xs.length:Nat):Int)<((xs.length:Nat):Int):=by omega
  have hr:jfB l (Z3 yt (xs.drop xs.length))=some l:=by rw[List.drop_length];show some (l++[])=_;rw[List.append_nil]
  rw[hr,joq];show _=some (A.tup [.sl 1 (l.map ci),vb true],[]);generalize l.map ci=R at *;simp only[jo,nlt]
 .intro i hi ih l hc;have hlt:(i:Int)<((xs.length:Nat):Int):=by omega
  have h5:=jx hi (by omega);have x1:ji 1 (.sl 1 (xs.map cs)) (vi (i:Nat))=some (.elt (cs xs[i]) 0):=jc hi;have e1:=jlW (hx _ (List.getElem_mem hi));have hf:zq ((l.map ci).length+1) 8=true:=juI (by rw[List.length_map];omega);rw[jC hi,Z3];generalize xs[i]=x at *;cases h2:yt x with
  |none=>
   rw[h2]at e1;have e1:G 63 [sv x]=some (A.tup [vi 0,vb false],[]):=e1;show _=some (A.tup [.sl 1 [],vb false],[]);rw[joq];simp only[jo,hlt,x1,ldS,e1]
  |some n=>
   rw[h2]at e1;have e1:G 63 [sv x]=some (A.tup [vi n,vb true],[]):=e1;have ih:=ih (l++[n]) (by rw[List.length_append,List.length_singleton];omega);rw[<-jkv]at ih;simp only;rw[jha,<-ih,joq];generalize l.map ci=R at *;simp only[jo,hlt,x1,ldS,e1,hf,h5]
theorem jcv{s:Xb}(hs:s.length<=1048576):G 33 [sv s]=some (.tup [ints (iO (rdN yt s)),vb (rdN yt s).isSome],[]):=by
 unfold rdN;rw[g33];by_cases h:s=[45]
 .rw [if_pos h];show _=some (A.tup [.sl 1 [],vb true],[]);simp only[jo,h]
 .rw [if_neg h];have e1:G 31 [sv s,vy 44]=_:=jlo hs 44;have hn:=jbA 44 s;have key:=jjO (kq 44 s) (by omega) (λx hx=>Nat.le_trans (jgs 44 s x hx) hs) 0 (Nat.zero_le _) [] rfl;rw[List.map_nil,List.drop_zero,jhb]at key;refine Eq.trans ?_ key;generalize kq 44 s=xs at *;simp only[jo,h,e1];rfl
theorem jqY{s:Xb}(hs:s.length<=1048576):G 68 [sv s]=some (.tup [vi ((kU s).getD 0),vb (kU s).isSome],[]):=by
 have:K.ext 68=some jla:=rfl;rw[jgJ this];exact if_pos (show s.length<=281474976710656 by omega)
theorem jjP(xs:Xa)(hl:xs.length<=1048577)(hx:∀x∈xs,x.length<=1048576):∀i,i<=xs.length-> ∀l:Xi,l.length=i->
  jbm (.sl 1 (xs.map cs)) (vi (xs.length:Nat)) (vi (i:Nat)) (l.map ci)=some (.top,[vb (jfB l (Z3 kU (xs.drop i))).isSome,.sl 65 ((iO (jfB l (Z3 kU (xs.drop i)))).map ci)]):=by
 refine upto ?_ ?_
 .intro l hc;have nlt:¬((xs.length:Nat):Int)<((xs.length:Nat):Int):=by omega
  have hr:jfB l (Z3 kU (xs.drop xs.length))=some l:=by rw[List.drop_length];show some (l++[])=_;rw[List.append_nil]
  rw[hr,jfY];show _=some (A.top,[vb true,.sl 65 (l.map ci)]);generalize l.map ci=R at *;simp only[jo,nlt]
 .intro i hi ih l hc;have hlt:(i:Int)<((xs.length:Nat):Int):=by omega
  have h5:=jx hi (by omega);have x1:ji 1 (.sl 1 (xs.map cs)) (vi (i:Nat))=some (.elt (cs xs[i]) 0):=jc hi;have e1:=jqY (hx _ (List.getElem_mem hi));have hf:zq ((l.map ci).length+1) 8=true:=juI (by rw[List.length_map];omega);rw[jC hi,Z3];generalize xs[i]=x at *;cases h2:kU x with
  |none=>
   rw[h2]at e1;have e1:G 68 [sv x]=some (A.tup [vi 0,vb false],[]):=e1;show _=some (A.top,[vb false,.sl 65 []]);rw[jfY];simp only[jo,hlt,x1,ldS,e1]
  |some n=>
   rw[h2]at e1;have e1:G 68 [sv x]=some (A.tup [vi n,vb true],[]):=e1;have ih:=ih (l++[n]) (by rw[List.length_append,List.length_singleton];omega);rw[<-jkv]at ih;simp only;rw[jha,<-ih,jfY];generalize l.map ci=R at *;simp only[jo,hlt,x1,ldS,e1,hf,h5,jd7]
theorem QC{s:Xb}(hs:s.length<=1048576):jaw (sv s)=some (.top,[vb (rdN kU s).isSome,.sl 65 ((iO (rdN kU s)).map ci)]):=by
 unfold rdN;rw[jt4];by_cases h:s=[45]
 .rw [if_pos h];show _=some (A.top,[vb true,.sl 65 []]);simp only[jo,h]
 .rw [if_neg h];have e1:=jeO (sep:=[44]) hs (by decide);rw[jeQ]at e1;have hn:=jbA 44 s;have key:=jjP (kq 44 s) (by omega) (λx hx=>Nat.le_trans (jgs 44 s x hx) hs) 0 (Nat.zero_le _) [] rfl;rw[List.map_nil,List.drop_zero,jhb]at key;refine Eq.trans ?_ key;generalize kq 44 s=xs at *;simp only[jo,h,e1];rfl
theorem jhv(w:Xb)(xs:Xa)(hl:xs.length<=1000):∀i,i<=xs.length->
  jgL (.sl 1 (xs.map cs)) (sv w) (vi (xs.length:Nat)) (vi (i:Nat))=some (vi (Kt w (xs.drop i) (i:Nat)),[]):=by
 refine upto ?_ ?_
 .have nlt:¬((xs.length:Nat):Int)<((xs.length:Nat):Int):=by omega
  rw[List.drop_length,jkW];show _=some (vi (-1),[]);simp only[jo,nlt]
 .intro i hi ih;have hlt:(i:Int)<((xs.length:Nat):Int):=by omega
  have h5:=jx hi (by omega);have x1:ji 1 (.sl 1 (xs.map cs)) (vi (i:Nat))=some (.elt (cs xs[i]) 0):=jc hi;rw[jC hi];show _=some (vi (if w=xs[i]then((i:Nat):Int)else Kt w (xs.drop (i+1)) (((i:Nat):Int)+1)),[]);have e:(((i:Nat):Int)+1)=((i+1:Nat):Int):=rfl;rw[e];generalize xs[i]=x at *;rw[jkW];by_cases h:w=x
  .rw [if_pos h];simp only[jo,hlt,x1,ldS,h]
  .rw [if_neg h,<-ih];simp only[jo,hlt,x1,ldS,h,h5]
theorem jlU(w:Xb)(xs:Xa)(hl:xs.length<=1000):G 36 [.sl 1 (xs.map cs),sv w]=some (vi (Kt w xs 0),[]):=by
 have key:=jhv w xs hl 0 (Nat.zero_le _);rw[List.drop_zero]at key;refine Eq.trans ?_ key;rw[g36];simp only[jo,Int.natCast_zero]
theorem jfA{s sep:Xb}(hs:s.length<=1048576):G 35 [sv s,sv sep]=some (.tup [sv (Lib.cut s sep).1,sv (Lib.cut s sep).2.1,vb (Lib.cut s sep).2.2],[]):=by
 have:K.ext 35=some jp7:=rfl;rw[jgJ this];exact if_pos (show s.length<4294967281 by omega)
def YU:kW->Nat
 | []=>0
 |l::c=>2+JL l.2.args+YU c
theorem joy:∀c:kW,YU c<=2*c.length+lsz c
 | []=>by simp[YU]
 |l::c=>by
  have h1:=joy c;have h2:=jf5 l.2.args;have h3:=zB l.2;simp only[YU,lsz,List.length_cons];omega
def jwR:List kW->Nat
 | []=>0
 |c::l=>YU c+jwR l
def mkS(s:Stp):Nat:=1+s.par.length+s.whr.length+YU s.cls
def jwS:List Stp->Nat
 | []=>0
 |s::l=>mkS s+jwS l
def HC:Nat->kW->Nat->Prop
 |k,[],k'=>k'=k
 |k,l::c,k'=>∃k1:Nat,l.1=decide (((k % 3:Nat):Int)=0)/\G 111 [vi ((k+1:Nat):Int)]=some (sv l.2.name,[])/\G 113 [zh l.2.args,vi ((k+2:Nat):Int)]=some (vi (k1:Nat),[])/\k<k1/\HC k1 c k'
theorem jnc:∀(r:kW)(k k':Nat),HC k r k'->k<=k'
 | [],k,k',h=>by have h:k'=k:=h;omega
 |u::r,k,k',⟨k1,_,_,_,g3,g4⟩=>by have:=jnc r k1 k' g4;omega
theorem Yf:∀(r M:kW)(k k':Nat),k'<=100000000->M.length+r.length<=9223372036854775807->k<=k'->HC k r k'->jkq (.sl 3 ((M++r).map kA)) (vi (k:Nat)) (vi (M.length:Nat))=some (vi (k':Nat),[])
 | [],M,k,k',_,_,_,h=>by
  have h:k'=k:=h;subst h;rw[jrW,List.append_nil];simp only[jo]
 |l::r,M,k,k',hk,hl,hkk,⟨k1,g0,g1,g2,g3,g4⟩=>by
  have h1:((M.length:Nat):Int)<(((M++l::r).length:Nat):Int):=jjv M r l;have h2:ji 3 (.sl 3 ((M++l::r).map kA)) (vi (M.length:Nat))=some (.elt (kA l) 0):=jcE (f:=kA) (k:=3) M r l;have hle:k1<=k':=jnc r k1 k' g4;have hm:((k:Nat):Int).tmod 3=((k % 3:Nat):Int):=by rw[Int.tmod_eq_emod_of_nonneg (by omega)];rfl
  have e1:=jx (i:=k) (n:=k+1) (by omega) (by omega);have e1':=jx (i:=k+1) (n:=k+2) (by omega) (by omega);have h5:=jx (i:=M.length) (n:=(M++l::r).length) (by simp) (by simp;simp at hl;omega);have ih:=Yf r (M++[l]) k1 k' hk (by simp at hl⊢;omega) hle g4;have q:(M++[l]).length=M.length+1:=by simp
  rw[q,List.append_assoc,List.singleton_append]at ih;have a0:Z6 (.elt (kA l) 0) 0=some (.elt (kA l) 0):=by rw[Je]
  have a1:Z6 (.elt (kA l) 0) 1=some (.elt (kA l) 1):=by rw[Je]
  have a2:Z6 (.elt (kA l) 1) 0=some (.elt (kA l) 1):=by rw[Je]
  have a3:Z6 (.elt (kA l) 1) 1=some (.elt (kA l) 2):=by rw[Je]
  have p0:zI (.elt (kA l) 0)=some (vb l.1):=rfl;have p1:zI (.elt (kA l) 1)=some (sv l.2.name):=rfl;have p2:zI (.elt (kA l) 2)=some (zh l.2.args):=rfl;have nk:¬((k1:Nat):Int)<0:=by omega
  rw[jrW];generalize hb:decide (((k % 3:Nat):Int)=0)=b at g0;cases b<;>simp only[jo,h1,h2,a0,a1,a2,a3,p0,p1,p2,g0,jeq,hm,hb,g1,e1,e1',g2,nk,h5,ih]
theorem jhq(c:kW)(k k':Nat)(hk:k'<=100000000)(hl:c.length<=9223372036854775807)(h:HC k c k'):G 74 [.sl 3 (c.map kA),vi (k:Nat)]=some (vi (k':Nat),[]):=by
 have:=Yf c [] k k' hk (by simpa using hl) (jnc c k k' h) h;rw[g74];exact this
theorem Jz:∀(r:kW)(M:Xc)(k:Nat),k+YU r<=100000000->M.length+r.length<=9223372036854775807->(∀l∈r,twf l.2)->
  ∃c:kW,c.length=r.length/\HC k c (k+YU r)/\jbo (vi (k:Nat)) (vi (M.length:Nat)) (M++r.map kA)=some (.top,[vi ((k+YU r:Nat):Int),.sl 67 (M++c.map kA)])
 | [],M,k,hk,hl,_=>by
  refine⟨[],rfl,rfl,?_⟩;rw[jkZ,List.map_nil,List.append_nil];simp only[jo,YU,Nat.add_zero]
 |l::r,M,k,hk,hl,ht=>by
  simp only[YU,List.length_cons]at hk hl;have h1:((M.length:Nat):Int)<(((M++kA l::r.map kA).length:Nat):Int):=by simp;omega
  have hm:((k:Nat):Int).tmod 3=((k % 3:Nat):Int):=by rw[Int.tmod_eq_emod_of_nonneg (by omega)];rfl
  generalize hb:decide (((k % 3:Nat):Int)=0)=b;have h2:=jam M (r.map kA) (kA l);have h3:=ZQ M (r.map kA) (kA l);obtain⟨s,e0⟩:=jaY (k+1) (by omega);have s1:=ZR M (r.map kA) (kA l) [vb b,sv l.2.name,zh l.2.args];have i1:=jam M (r.map kA) [vb b,sv l.2.name,zh l.2.args];have g1:=ZQ M (r.map kA) [vb b,sv l.2.name,zh l.2.args];have s2:=ZR M (r.map kA) [vb b,sv l.2.name,zh l.2.args] [vb b,sv s,zh l.2.args];have i2:=jam M (r.map kA) [vb b,sv s,zh l.2.args];have g2:=ZQ M (r.map kA) [vb b,sv s,zh l.2.args];obtain⟨vs,e3,e4⟩:=jox l.2 (ht l (by simp)) (k+2) (by omega);have s3:=ZR M (r.map kA) [vb b,sv s,zh l.2.args] [vb b,sv s,zh vs];have e1:=jx (i:=k) (n:=k+1) (by omega) (by omega);have e1':=jx (i:=k+1) (n:=k+2) (by omega) (by omega);have e2:=jx (i:=M.length) (n:=M.length+1) (by omega) (by omega);obtain⟨c,l1,l2,ih⟩:=Jz r (M++[[vb b,sv s,zh vs]]) (k+2+JL l.2.args) (by omega) (by simp;omega) λu hu=>ht u (by simp[hu]);have q:(M++[[vb b,sv s,zh vs]]).length=M.length+1:=by simp
  have q2:M++[[vb b,sv s,zh vs]]++r.map kA=M++[vb b,sv s,zh vs]::r.map kA:=by simp
  have q3:M++[[vb b,sv s,zh vs]]++c.map kA=M++(((b,T.mk s vs):Lt)::c).map kA:=by rw[List.map_cons,List.append_assoc];rfl
  rw[q,q2,q3,show k+2+JL l.2.args+YU r=k+(2+JL l.2.args+YU r) by omega]at ih;have o1:kS (kA l) 0 [vb b]=[vb b,sv l.2.name,zh l.2.args]:=rfl;have o2:kS [vb b,sv l.2.name,zh l.2.args] 1 [sv s]=[vb b,sv s,zh l.2.args]:=rfl;have o3:kS [vb b,sv s,zh l.2.args] 2 [zh vs]=[vb b,sv s,zh vs]:=rfl;have t1:QP (kA l) 0 1=true:=rfl;have t2:QP [vb b,sv l.2.name,zh l.2.args] 1 1=true:=rfl;refine⟨(b,T.mk s vs)::c,by simp[l1],?_,?_⟩
  .rw [YU];exact⟨k+2+JL l.2.args,hb.symm,e0,e4,by omega,by rw[show k+(2+JL l.2.args+YU r)=k+2+JL l.2.args+YU r by omega];exact l2⟩
  .rw [jkZ,List.map_cons,YU];simp only[jo,h1,jeq,hm,hb,h2,h3,kI,t1,o1,e1,e0,s1,i1,kE,g1,t2,o2,e1',s2,i2,g2,jhz,e3,List.getElem?_cons_zero,o3,s3,e2,ih]
theorem jf4(c:kW)(k:Nat)(hk:k+YU c<=100000000)(hw:cwf c):∃d:kW,jm9 (vi (k:Nat)) (c.map kA)=some (.top,[vi ((k+YU c:Nat):Int),.sl 67 (d.map kA)])/\G 74 [.sl 3 (d.map kA),vi (k:Nat)]=some (vi ((k+YU c:Nat):Int),[]):=by
 obtain⟨d,l1,l2,h⟩:=Jz c [] k hk (by simpa using hw.2) hw.1;refine⟨d,?_,jhq d k _ hk (by rw[l1];exact hw.2) l2⟩;rw[jt8];exact h
def HCs:Nat->List kW->Nat->Prop
 |k,[],k'=>k'=k
 |k,c::l,k'=>∃k1:Nat,G 74 [.sl 3 (c.map kA),vi (k:Nat)]=some (vi (k1:Nat),[])/\k<=k1/\HCs k1 l k'
def qc:Nat->Nat->Xi
 |_,0=>[]
 |k,n+1=>(k:Int)::qc (k+1) n
theorem Ye:∀(n:Nat)(M:Xi)(k:Nat),k+n<=100000000->M.length+n<=9223372036854775807->jkl (ints (M++qc k n)) (vi (k:Nat)) (vi (M.length:Nat))=some (vi ((k+n:Nat):Int),[])
 |0,M,k,hk,hl=>by
  rw[jrQ,qc,List.append_nil];simp only[jo,Nat.add_zero]
 |n+1,M,k,hk,hl=>by
  have h1:((M.length:Nat):Int)<(((M++(k:Int)::qc (k+1) n).length:Nat):Int):=jjv M _ _;have h2:ji 1 (ints (M++(k:Int)::qc (k+1) n)) (vi (M.length:Nat))=some (.elt (ci (k:Int)) 0):=jcE (f:=ci) (k:=1) M _ _;have e1:=jx (i:=k) (n:=k+1) (by omega) (by omega);have h5:=jx (i:=M.length) (n:=M.length+1) (by omega) (by omega);have ih:=Ye n (M++[(k:Int)]) (k+1) (by omega) (by simp at hl⊢;omega);have q:(M++[(k:Int)]).length=M.length+1:=by simp
  rw[q,List.append_assoc,List.singleton_append,show k+1+n=k+(n+1) by omega]at ih;have p0:zI (.elt (ci (k:Int)) 0)=some (vi (k:Nat)):=rfl;rw[jrQ,qc];simp only[jo,h1,h2,p0,e1,h5,ih]
theorem jaN(n k:Nat)(hk:k+n<=100000000):G 44 [ints (qc k n),vi (k:Nat)]=some (vi ((k+n:Nat):Int),[]):=by
 have:=Ye n [] k hk (by simp;omega)
 rw[g44];exact this
theorem Jy:∀(r:Xi)(M:Xc)(k:Nat),k+r.length<=100000000->M.length+r.length<=9223372036854775807->
  jbn (vi (k:Nat)) (vi (M.length:Nat)) (M++r.map ci)=some (.top,[vi ((k+r.length:Nat):Int),.sl 65 (M++(qc k r.length).map ci)])
 | [],M,k,hk,hl=>by
  rw[jkX,List.map_nil,List.append_nil];simp only[jo,Nat.add_zero,List.length_nil,qc,List.map_nil,List.append_nil]
 |x::r,M,k,hk,hl=>by
  simp only[List.length_cons]at hk hl;have h1:((M.length:Nat):Int)<(((M++ci x::r.map ci).length:Nat):Int):=by simp;omega
  have h2:=jam M (r.map ci) (ci x);have h3:=ZQ M (r.map ci) (ci x);have s3:=ZR M (r.map ci) (ci x) [vi (k:Nat)];have e1:=jx (i:=k) (n:=k+1) (by omega) (by omega);have e2:=jx (i:=M.length) (n:=M.length+1) (by omega) (by omega);have ih:=Jy r (M++[[vi (k:Nat)]]) (k+1) (by omega) (by simp;omega);have q:(M++[[vi (k:Nat)]]).length=M.length+1:=by simp
  have q2:M++[[vi (k:Nat)]]++r.map ci=M++[vi (k:Nat)]::r.map ci:=by simp
  have q3:M++[[vi (k:Nat)]]++(qc (k+1) r.length).map ci=M++(qc k (r.length+1)).map ci:=by simp[qc]
  rw[q,q2,q3,show k+1+r.length=k+(r.length+1) by omega]at ih;have o3:kS (ci x) 0 [vi (k:Nat)]=[vi (k:Nat)]:=rfl;have t1:QP (ci x) 0 1=true:=rfl;rw[jkX,List.map_cons,List.length_cons];simp only[jo,h1,h2,h3,jd7,t1,o3,s3,e1,e2,ih]
theorem Qt(l:Xi)(k:Nat)(hk:k+l.length<=100000000):jke (vi (k:Nat)) (l.map ci)=some (.top,[vi ((k+l.length:Nat):Int),.sl 65 ((qc k l.length).map ci)]):=by
 rw[jt5];exact Jy l [] k hk (by simp;omega)
def HSs:Nat->List Stp->Nat->Prop
 |k,[],k'=>k'=k
 |k,s::l,k'=>∃k1 k2 k3:Nat,s.rule=(k:Int)/\G 44 [ints s.par,vi ((k+1:Nat):Int)]=some (vi (k1:Nat),[])/\G 44 [ints s.whr,vi (k1:Nat)]=some (vi (k2:Nat),[])/\G 74 [.sl 3 (s.cls.map kA),vi (k2:Nat)]=some (vi (k3:Nat),[])/\k<k3/\HSs k3 l k'
theorem jnJ{s:Xb} :(cO (clF zp s)).length<=8/\ ∀l∈cO (clF zp s),tsz l.2<=300:=by
 cases h:clF zp s with
 |none=>exact⟨Nat.zero_le _,λl hl=>by cases hl⟩
 |some c=>
  obtain⟨h1,_⟩:=jlN h;have:=(KE h1).1;exact⟨this.1,λl hl=>JV (this.2 l hl).1 (this.2 l hl).2⟩
theorem jgT{f:Xb->Option Int} :∀{xs:Xa}{l:Xi},Z3 f xs=some l->l.length=xs.length
 | [],l,h=>by cases h;rfl
 |x::r,l,h=>by
  unfold Z3 at h;split at h
  .cases h
  .obtain ⟨l',h1,rfl⟩:=Option.map_eq_some_iff.1 h;rw[List.length_cons,List.length_cons,jgT h1]
theorem jbx(f:Xb->Option Int)(s:Xb):(iO (rdN f s)).length<=s.length+1:=by
 unfold rdN;split
 .exact Nat.zero_le _
 .cases h:Z3 f (kq 44 s)with
  |none=>exact Nat.zero_le _
  |some l=>
   have:=jgT h;have:=jbA 44 s;show l.length<=_;omega
def jjM:Xa->Nat
 | []=>0
 |x::r=>x.length+1+jjM r
theorem jlq(b:UInt8):∀s:Xb,jjM (kq b s)=s.length+1
 | []=>rfl
 |c::r=>by
  have ih:=jlq b r;show jjM (if c=b then[]::kq b r else match kq b r with| []=>[[c]]|x::xs=>(c::x)::xs)=_;split
  .show 0+1+jjM (kq b r)=_;rw[ih];simp only[List.length_cons];omega
  .cases h:kq b r with
   |nil=>exact absurd h (jdh b r)
   |cons x xs=>
    rw[h]at ih;have ih:x.length+1+jjM xs=r.length+1:=ih;show(c::x).length+1+jjM xs=_;simp only[List.length_cons];omega
theorem jqn{s:Xb}(h:5<=(kq 32 s).length):(wd (kq 32 s) 0).length+(wd (kq 32 s) 1).length+(wd (kq 32 s) 2).length+(wd (kq 32 s) 3).length+4<=s.length:=by
 have:=jlq 32 s;generalize kq 32 s=ws at *
 match ws,h with
 |a::b::c::d::e::r,_=>
  have this:a.length+1+(b.length+1+(c.length+1+(d.length+1+(e.length+1+jjM r))))=s.length+1:=this;show a.length+b.length+c.length+d.length+4<=_;omega
theorem je9{ws:Xa}{i:Nat}(h:i<ws.length):ji 1 (.sl 1 (ws.map cs)) (vi (i:Nat))=some (.elt (cs (wd ws i)) 0):=by
 have:wd ws i=ws[i]:=by unfold wd;rw[List.getD_eq_getElem?_getD,List.getElem?_eq_getElem h];rfl
 rw[this];exact jc h
theorem jlA{s:Xb}(i:Nat):(wd (kq 32 s) i).length<=s.length:=by
 unfold wd;rw[List.getD_eq_getElem?_getD];cases h:(kq 32 s)[i]? with
 |none=>exact Nat.zero_le _
 |some x=>exact jgs 32 s x (List.mem_of_getElem? h)
theorem ji5(s sep:Xb):(Lib.cut s sep).1.length<=s.length/\(Lib.cut s sep).2.1.length+sep.length<=s.length+sep.length/\((Lib.cut s sep).2.1.length=0\/(Lib.cut s sep).2.1.length+sep.length<=s.length):=by
 unfold Lib.cut;split
 .rename_i h;have:=Lib.index_room s sep h;refine⟨by rw[List.length_take];omega,?_,?_⟩
  .show (s.drop _).length+_<=_;rw[List.length_drop];omega
  .refine Or.inr ?_;show(s.drop _).length+_<=_;rw[List.length_drop];omega
 .exact ⟨Nat.le_refl _,by show 0+_<=_;omega,Or.inl rfl⟩
def zst:Stp:=⟨0,[],[],[]⟩
def sO(o:Option Stp):Stp:=o.getD zst
theorem qO{s:Xb}{ws:Xa}(h5:5<=ws.length){k:Nat}(h6:k<=6)(r:Int) :
  jax (sv s) (.sl 1 (ws.map cs)) (vi (k:Nat)) (vi 0) (vi 0) (vi r) [] [] [] [] [] [] [] [] []=jax (sv s) (.sl 1 (ws.map cs)) (vi ((k+1:Nat):Int)) (vi 0) (vi 0) (vi (ja5 (wd ws 0) k r)) [] [] [] [] [] [] [] [] []:=by
 have hle:((k:Nat):Int)<=6:=by omega
 have x0:ji 1 (.sl 1 (ws.map cs)) (vi 0)=some (.elt (cs (wd ws 0)) 0):=je9 (i:=0) (by omega);have x1:ji 1 (.sl 1 (RL.map cs)) (vi (k:Nat))=some (.elt (cs (RL.getD k [])) 0):=je9 (ws:=RL) (by show k<7;omega);have r1:=jaU;have h7:=jx (i:=k) (n:=7) (by omega) (by decide);unfold ja5;generalize RL.getD k []=R at *;generalize wd ws 0=w at *;refine Eq.trans (jrK ..) ?_;by_cases h:w=R
 .rw [if_pos h];simp only[jo,hle,x0,ldS,r1,x1,h,h7]
 .rw [if_neg h];simp only[jo,hle,x0,ldS,r1,x1,h,h7]
theorem jdf{s:Xb}(hs:s.length<=1048576):G 13 [sv s]=some (.tup [stm (sO (zM s)),vb (zM s).isSome],[]):=by
 have bad:∀B:Xe,zM s=none->B=some (.tup [stm zst,vb false],[])->B=some (.tup [stm (sO (zM s)),vb (zM s).isSome],[]):=λB h hB=>by rw[hB,h];rfl
 by_cases hl:4000<s.length
 .have hl':(4000:Int)<((s.length:Nat):Int):=by omega
  refine bad _ (by unfold zM;rw[if_pos (Or.inl hl)]) ?_
  show _=some (A.tup [A.agg [vi 0,A.sl 1 [],A.sl 1 [],A.sl 3 []],vb false],[]);rw[g13];simp only[jo,hl']
 have hl':¬(4000:Int)<((s.length:Nat):Int):=by omega
 have e1:G 31 [sv s,vy 32]=_:=jlo hs 32;by_cases h5:(kq 32 s).length<5
 .have h5':(((kq 32 s).length:Nat):Int)<5:=by omega
  refine bad _ (by unfold zM;rw[if_pos (Or.inr (Or.inl h5))]) ?_
  show _=some (A.tup [A.agg [vi 0,A.sl 1 [],A.sl 1 [],A.sl 3 []],vb false],[]);rw[g13];generalize kq 32 s=ws at *;simp only[jo,hl',e1,h5']
 have h5':¬(((kq 32 s).length:Nat):Int)<5:=by omega
 have x3:ji 1 (.sl 1 ((kq 32 s).map cs)) (vi 3)=some (.elt (cs (wd (kq 32 s) 3)) 0):=je9 (i:=3) (by omega);by_cases h3:wd (kq 32 s) 3=[]
 .refine bad _ (by unfold zM;rw[if_pos (Or.inr (Or.inr h3))]) ?_
  show _=some (A.tup [A.agg [vi 0,A.sl 1 [],A.sl 1 [],A.sl 3 []],vb false],[]);rw[h3]at x3;rw[g13];generalize kq 32 s=ws at *;simp only[jo,hl',e1,h5',x3,ldS,List.length_nil,Int.natCast_zero]
 have h3':¬(((wd (kq 32 s) 3).length:Nat):Int)=0:=λe=>h3 (List.eq_nil_of_length_eq_zero (by omega));have h31:1<=(wd (kq 32 s) 3).length:=by omega
 have hgo:zM s=Jc s (rdN yt (wd (kq 32 s) 1)) (rdN yt ((wd (kq 32 s) 3).take ((wd (kq 32 s) 3).length-1)))
  (clF zp (s.drop ((wd (kq 32 s) 0).length+(wd (kq 32 s) 1).length+(wd (kq 32 s) 2).length+(wd (kq 32 s) 3).length+4))) (jc8 (wd (kq 32 s) 0)):=by
  unfold zM;rw[if_neg (by rintro(h|h|h);exact hl h;exact h5 h;exact h3 h)]
 have hat:=jqn (s:=s) (by omega);have w0:=jlA (s:=s) 0;have w1:=jlA (s:=s) 1;have w2:=jlA (s:=s) 2;have w3:=jlA (s:=s) 3;have x0:ji 1 (.sl 1 ((kq 32 s).map cs)) (vi 0)=some (.elt (cs (wd (kq 32 s) 0)) 0):=je9 (i:=0) (by omega);have x1:ji 1 (.sl 1 ((kq 32 s).map cs)) (vi 1)=some (.elt (cs (wd (kq 32 s) 1)) 0):=je9 (i:=1) (by omega);have x2:ji 1 (.sl 1 ((kq 32 s).map cs)) (vi 2)=some (.elt (cs (wd (kq 32 s) 2)) 0):=je9 (i:=2) (by omega);have e2:=jcv (s:=wd (kq 32 s) 1) (by omega);have s1:=jre (s:=wd (kq 32 s) 3) (b:=(wd (kq 32 s) 3).length-1) (by omega);have e3:=jcv (s:=(wd (kq 32 s) 3).take ((wd (kq 32 s) 3).length-1)) (by rw[List.length_take];omega);have s2:=jjW (s:=s) hat;have e4:=jbg (s:=s.drop ((wd (kq 32 s) 0).length+(wd (kq 32 s) 1).length+(wd (kq 32 s) 2).length+(wd (kq 32 s) 3).length+4)) (by rw[List.length_drop];omega);have z1:=jnJ (s:=s.drop ((wd (kq 32 s) 0).length+(wd (kq 32 s) 1).length+(wd (kq 32 s) 2).length+(wd (kq 32 s) 3).length+4));have y1:=jbx yt (wd (kq 32 s) 1);have y2:=jbx yt ((wd (kq 32 s) 3).take ((wd (kq 32 s) 3).length-1));rw[List.length_take]at y2;have go:G 13 [sv s]=jax (sv s) (.sl 1 ((kq 32 s).map cs)) (vi 7) (vi 0) (vi 0) (vi (jc8 (wd (kq 32 s) 0))) [] [] [] [] [] [] [] [] []:=by
  have g1:G 13 [sv s]=jax (sv s) (.sl 1 ((kq 32 s).map cs)) (vi ((1:Nat):Int)) (vi 0) (vi 0) (vi 0) [] [] [] [] [] [] [] [] []:=by
   rw[g13];generalize kq 32 s=ws at *;simp only[jo,hl',e1,h5',x3,ldS,h3'];rfl
  have h5:5<=(kq 32 s).length:=by omega
  rw[g1,qO h5 (k:=1) (by decide),qO h5 (k:=1+1) (by decide),qO h5 (k:=1+1+1) (by decide),qO h5 (k:=1+1+1+1) (by decide),qO h5 (k:=1+1+1+1+1) (by decide),qO h5 (k:=1+1+1+1+1+1) (by decide)];rfl
 rw[go,hgo];generalize jc8 (wd (kq 32 s) 0)=r;generalize wd (kq 32 s) 0=v0 at *;generalize wd (kq 32 s) 1=v1 at *;generalize wd (kq 32 s) 2=v2 at *;generalize wd (kq 32 s) 3=v3 at *;generalize kq 32 s=ws at *;have a0:ck (((v3.length:Nat):Int)-1)=some (vi ((v3.length-1:Nat):Int)):=by
  rw[zo (by omega) (by omega)];congr 2;omega
 have a1:ck (((v0.length:Nat):Int)+((v1.length:Nat):Int))=some (vi ((v0.length+v1.length:Nat):Int)):=zo (by omega) (by omega);have a2:ck (((v0.length+v1.length:Nat):Int)+((v2.length:Nat):Int))=some (vi ((v0.length+v1.length+v2.length:Nat):Int)):=zo (by omega) (by omega);have a3:ck (((v0.length+v1.length+v2.length:Nat):Int)+((v3.length:Nat):Int))=some (vi ((v0.length+v1.length+v2.length+v3.length:Nat):Int)):=zo (by omega) (by omega);have a4:ck (((v0.length+v1.length+v2.length+v3.length:Nat):Int)+4)=some (vi ((v0.length+v1.length+v2.length+v3.length+4:Nat):Int)):=zo (by omega) (by omega);generalize ((v0.length+v1.length+v2.length+v3.length+4:Nat):Int)=at4 at a4 s2;generalize s.drop (v0.length+v1.length+v2.length+v3.length+4)=cs' at *;generalize v3.take (v3.length-1)=v3' at *;generalize ((v3.length-1:Nat):Int)=l3 at *;generalize hp:rdN yt v1=p at *;generalize hq:rdN yt v3'=q at *;generalize hc:clF zp cs'=c at *;have f:=(Yc ⟨r,iO p,iO q,cO c⟩ (by show(iO p).length<=_;omega) (by show(iO q).length<=_;omega) (by show(cO c).length<=_;omega) (λl hl=>by have:=z1.2 l hl;unfold Tz;omega)).2;have seven:¬((7:Int)<=6):=by decide
 have bad:∀B:Xe,Jc s p q c r=none->B=some (.tup [A.agg [vi 0,A.sl 1 [],A.sl 1 [],A.sl 3 []],vb false],[])->B=some (.tup [stm (sO (Jc s p q c r)),vb (Jc s p q c r).isSome],[]):=λB h hB=>by rw[hB,h];rfl
 rw[jrK];cases p with
 |none=>
  have e2:G 33 [sv v1]=some (A.tup [ints [],vb false],[]):=e2;refine bad _ rfl ?_;simp only[jo,seven,x0,x1,x2,x3,ldS,e2,a0,s1,e3,a1,a2,a3,a4,s2,e4]
 |some p=>
  have e2:G 33 [sv v1]=some (A.tup [ints p,vb true],[]):=e2;cases q with
  |none=>
   have e3:G 33 [sv v3']=some (A.tup [ints [],vb false],[]):=e3;refine bad _ rfl ?_;simp only[jo,seven,x0,x1,x2,x3,ldS,e2,a0,s1,e3,a1,a2,a3,a4,s2,e4]
  |some q=>
   have e3:G 33 [sv v3']=some (A.tup [ints q,vb true],[]):=e3;cases c with
   |none=>
    have e4:G 30 [sv cs']=some (A.tup [cm [],vb false],[]):=e4;refine bad _ rfl ?_;simp only[jo,seven,x0,x1,x2,x3,ldS,e2,a0,s1,e3,a1,a2,a3,a4,s2,e4]
   |some c=>
    have e4:G 30 [sv cs']=some (A.tup [cm c,vb true],[]):=e4;have f:G 34 [stm ⟨r,p,q,c⟩]=some (.tup [sv (if jN ⟨r,p,q,c⟩=true then kD ⟨r,p,q,c⟩else[]),vb (jN ⟨r,p,q,c⟩)],[]):=f;have hk:Jc s (some p) (some q) (some c) r=if jN ⟨r,p,q,c⟩=true/\kD ⟨r,p,q,c⟩=s then some ⟨r,p,q,c⟩else none:=rfl;cases hv:jN ⟨r,p,q,c⟩with
    |false=>
     rw[hv,if_neg Bool.false_ne_true]at f;refine bad _ (by rw[hk,hv,if_neg (λh=>Bool.false_ne_true h.1)]) ?_;simp only[jo,seven,x0,x1,x2,x3,ldS,e2,a0,s1,e3,a1,a2,a3,a4,s2,e4,f]
    |true=>
     rw[hv,if_pos rfl]at f;by_cases ht:kD ⟨r,p,q,c⟩=s
     .rw [ht]at f;rw[hk,hv,if_pos ⟨rfl,ht⟩];show _=some (A.tup [A.agg [vi r,ints p,ints q,.sl 3 (c.map kA)],vb true],[]);simp only[jo,seven,x0,x1,x2,x3,ldS,e2,a0,s1,e3,a1,a2,a3,a4,s2,e4,f]
     .refine bad _ (by rw[hk,if_neg (λh=>ht h.2)]) ?_;generalize kD ⟨r,p,q,c⟩=X at *;simp only[jo,seven,x0,x1,x2,x3,ldS,e2,a0,s1,e3,a1,a2,a3,a4,s2,e4,f,ht]
theorem juu(a b:A)(k:Nat)(r:Xc)(l:Xd):hR k (A.top,a::b:: .sl k r::l) 2=some r:=by simp[hR]
theorem jsW(a b c:A)(k:Nat)(r:Xc)(l:Xd):hR k (A.top,a::b::c:: .sl k r::l) 3=some r:=by simp[hR]
theorem jsX(a b c d:A)(k:Nat)(r:Xc)(l:Xd):hR k (A.top,a::b::c::d:: .sl k r::l) 4=some r:=by simp[hR]
theorem jsV(a:A)(k:Nat)(r:Xc)(l:Xd):hR k (A.top,a:: .sl k r::l) 1=some r:=by simp[hR]
theorem qC(c:Bool)(X:Xb)(v:Bool):fin c (.tup [sv X,vb v],[])=some (.tup [sv X,vb v]):=by cases c<;>rfl
def jtb(o:Option Stp):Xd:=[vi (sO o).rule,vb o.isSome,.sl 65 ((sO o).par.map ci),.sl 65 ((sO o).whr.map ci),.sl 67 ((sO o).cls.map kA)]
theorem jcf{s:Xb}(hs:s.length<=1048576):jgH (sv s)=some (.top,jtb (K6 s)):=by
 have k1:=ji5 s [58,32];have k2:=ji5 (c1 s).1 [32,97,116,32];have k3:=ji5 (c2 s).1 [32];have m1:(c1 s).1.length<=s.length:=k1.1;have m2:(c2 s).1.length<=(c1 s).1.length:=k2.1;have n1:(c1 s).2.1.length<=s.length:=by have:(c1 s).2.1.length+_<=s.length+_:=k1.2.1;omega
 have n2:(c2 s).2.1.length=0\/(c2 s).2.1.length+4<=(c1 s).1.length:=k2.2.2;have n3:(c3 s).2.1.length=0\/(c3 s).2.1.length+1<=(c2 s).1.length:=k3.2.2;have e1:G 35 [sv s,sv [58,32]]=some (.tup [sv (c1 s).1,sv (c1 s).2.1,vb (c1 s).2.2],[]):=jfA hs;have e2:G 35 [sv (c1 s).1,sv [32,97,116,32]]=some (.tup [sv (c2 s).1,sv (c2 s).2.1,vb (c2 s).2.2],[]):=jfA (by omega);have e3:G 35 [sv (c2 s).1,sv [32]]=some (.tup [sv (c3 s).1,sv (c3 s).2.1,vb (c3 s).2.2],[]):=jfA (by omega);have e4:=QI;have e5:=jlU (c3 s).1 RL (by decide);have e6:=QC (s:=(c3 s).2.1) (by omega);have e7:=QC (s:=(c2 s).2.1) (by omega);have e8:=jji (s:=(c1 s).2.1) (by omega);have z1:=jnJ (s:=(c1 s).2.1);rw[<-jkB]at z1;have y1:=jbx kU (c3 s).2.1;have y2:=jbx kU (c2 s).2.1;have hgo:K6 s=if(c1 s).2.2=true/\(c2 s).2.2=true/\(c3 s).2.2=true then Jc s (rdN kU (c3 s).2.1) (rdN kU (c2 s).2.1) (clF Jq (c1 s).2.1) (Kt (c3 s).1 RL 0)else none:=rfl;have f0:=(Yc ⟨Kt (c3 s).1 RL 0,iO (rdN kU (c3 s).2.1),iO (rdN kU (c2 s).2.1),cO (clF Jq (c1 s).2.1)⟩ (by show(iO _).length<=_;omega) (by show(iO _).length<=_;omega) (by show(cO _).length<=_;omega) (λl hl=>by have:=z1.2 l hl;unfold Tz;omega)).1;have bad:∀B:Xe,K6 s=none->B=some (.top,[vi 0,vb false,.sl 65 [],.sl 65 [],.sl 67 []])->B=some (.top,jtb (K6 s)):=λB h hB=>by rw[hB,h];rfl
 rw[jt1];generalize K6 s=I at *;generalize Kt (c3 s).1 RL 0=r at *;generalize rdN kU (c3 s).2.1=p at *;generalize rdN kU (c2 s).2.1=q at *;generalize clF Jq (c1 s).2.1=c at *;generalize (c1 s).1=h1 at *;generalize (c2 s).1=h2 at *;generalize (c3 s).1=h3 at *;generalize (c1 s).2.1=g1 at *;generalize (c2 s).2.1=g2 at *;generalize (c3 s).2.1=g3 at *;generalize (c1 s).2.2=b1 at *;generalize (c2 s).2.2=b2 at *;generalize (c3 s).2.2=b3 at *;generalize RL.map cs=RR at *;have f:G 39 [.agg [vi r,.sl 1 ((iO p).map ci),.sl 1 ((iO q).map ci),.sl 3 ((cO c).map kA)]]=_:=f0;clear f0 z1 y1 y2 n1 n2 n3 m1 m2;generalize hst:(⟨r,iO p,iO q,cO c⟩:Stp)=st at f;generalize hV:jN st=v at f;generalize hX:(if v=true then kD st else[])=X at f;generalize hP:(iO p).map ci=P at *;generalize hQ:(iO q).map ci=Q at *;generalize hC:(cO c).map kA=C at *;cases b1 with
 |false=>
  refine bad _ (by rw[hgo,if_neg (λh=>Bool.false_ne_true h.1)]) ?_;simp only[jo,e1,e2,e3,e4,e5,e6,e7,e8,f,List.getElem?_cons_zero,List.getElem?_cons_succ,K4,zw,qC]
 |true=>
  cases b2 with
  |false=>
   refine bad _ (by rw[hgo,if_neg (λh=>Bool.false_ne_true h.2.1)]) ?_;simp only[jo,e1,e2,e3,e4,e5,e6,e7,e8,f,List.getElem?_cons_zero,List.getElem?_cons_succ,K4,zw,qC]
  |true=>
   cases b3 with
   |false=>
    refine bad _ (by rw[hgo,if_neg (λh=>Bool.false_ne_true h.2.2)]) ?_;simp only[jo,e1,e2,e3,e4,e5,e6,e7,e8,f,List.getElem?_cons_zero,List.getElem?_cons_succ,K4,zw,qC]
   |true=>
    rw[if_pos ⟨rfl,rfl,rfl⟩]at hgo;cases p with
    |none=>
     have e6:jaw (sv g3)=some (.top,[vb false,.sl 65 P]):=e6;refine bad _ hgo ?_;simp only[jo,e1,e2,e3,e4,e5,e6,e7,e8,f,List.getElem?_cons_zero,List.getElem?_cons_succ,K4,zw,qC]
    |some p=>
     have e6:jaw (sv g3)=some (.top,[vb true,.sl 65 P]):=e6;cases q with
     |none=>
      have e7:jaw (sv g2)=some (.top,[vb false,.sl 65 Q]):=e7;refine bad _ hgo ?_;simp only[jo,e1,e2,e3,e4,e5,e6,e7,e8,f,List.getElem?_cons_zero,List.getElem?_cons_succ,K4,zw,qC]
     |some q=>
      have e7:jaw (sv g2)=some (.top,[vb true,.sl 65 Q]):=e7;cases c with
      |none=>
       have e8:jna (sv g1)=some (.top,[vb false,.sl 67 C]):=e8;refine bad _ hgo ?_;simp only[jo,e1,e2,e3,e4,e5,e6,e7,e8,f,List.getElem?_cons_zero,List.getElem?_cons_succ,K4,zw,qC]
      |some c=>
       have e8:jna (sv g1)=some (.top,[vb true,.sl 67 C]):=e8;have hst:(⟨r,p,q,c⟩:Stp)=st:=hst;have hk:I=if jN st=true/\kD st=s then some st else none:=by rw[hgo,<-hst];rfl
       cases v with
       |false=>
        refine bad _ (by rw[hk,hV,if_neg (λh=>Bool.false_ne_true h.1)]) ?_;simp only[jo,e1,e2,e3,e4,e5,e6,e7,e8,f,List.getElem?_cons_zero,List.getElem?_cons_succ,K4,zw,qC]
       |true=>
        rw[if_pos rfl]at hX;by_cases ht:kD st=s
        .rw [ht]at hX;rw[hk,if_pos ⟨hV,ht⟩,<-hst];have hP:p.map ci=P:=hP;have hQ:q.map ci=Q:=hQ;have hC:c.map kA=C:=hC;show _=some (A.top,[vi r,vb true,.sl 65 (p.map ci),.sl 65 (q.map ci),.sl 67 (c.map kA)]);rw[hP,hQ,hC,<-hX]at *;simp only[jo,e1,e2,e3,e4,e5,e6,e7,e8,f,List.getElem?_cons_zero,List.getElem?_cons_succ,K4,zw,qC]
        .refine bad _ (by rw[hk,if_neg (λh=>ht h.2)]) ?_;rw[hX]at ht;simp only[jo,e1,e2,e3,e4,e5,e6,e7,e8,f,List.getElem?_cons_zero,List.getElem?_cons_succ,K4,zw,qC,ht]
theorem jl9(st:Stp)(hw:swf st)(hz:1+st.par.length+st.whr.length+YU st.cls<=100000000):∃(k:Nat)(d:Stp),jkd (vi st.rule) (vi 1) (st.par.map ci) (st.whr.map ci) (st.cls.map kA)=some (.top,[vi (k:Nat),.sl 65 (d.par.map ci),.sl 65 (d.whr.map ci),.sl 67 (d.cls.map kA)])/\d.rule=st.rule/\G 17 [stm d,vi 1]=some (vi (k:Nat),[]):=by
 have z1:((1:Nat):Int)=1:=rfl;have e1:=Qt st.par 1 (by omega);have e2:=Qt st.whr (1+st.par.length) (by omega);obtain⟨d,e3,e4⟩:=jf4 st.cls (1+st.par.length+st.whr.length) (by omega) hw.2.2.2;have f1:=jaN st.par.length 1 (by omega);have f2:=jaN st.whr.length (1+st.par.length) (by omega);rw[z1]at e1 f1;refine⟨1+st.par.length+st.whr.length+YU st.cls,⟨st.rule,qc 1 st.par.length,qc (1+st.par.length) st.whr.length,d⟩,?_,rfl,?_⟩
 .have e5:jm7 (vi ((1+st.par.length+st.whr.length:Nat):Int)) (st.cls.map kA)=some (.top,[vi ((1+st.par.length+st.whr.length+YU st.cls:Nat):Int),.sl 67 (d.map kA)]):=by
   rw[jt6];simp only[jo,e3,List.getElem?_cons_zero,K4]
  rw[jt2];generalize ((1+st.par.length:Nat):Int)=n1 at *;generalize ((1+st.par.length+st.whr.length:Nat):Int)=n2 at *;generalize ((1+st.par.length+st.whr.length+YU st.cls:Nat):Int)=n3 at *;simp only[jo,e1,e2,e5,List.getElem?_cons_zero,K4]
 .have g1:¬((1+st.par.length:Nat):Int)<0:=by omega
  have g2:¬((1+st.par.length+st.whr.length:Nat):Int)<0:=by omega
  have g3:¬((1+st.par.length+st.whr.length+YU st.cls:Nat):Int)<0:=by omega
  have f3:G 45 [.agg [.sl 3 (d.map kA)],vi ((1+st.par.length+st.whr.length:Nat):Int)]=some (vi ((1+st.par.length+st.whr.length+YU st.cls:Nat):Int),[]):=by
   rw[g45];generalize ((1+st.par.length+st.whr.length:Nat):Int)=n2 at *;generalize ((1+st.par.length+st.whr.length+YU st.cls:Nat):Int)=n3 at *;simp only[jo,e4,g3]
  show G 17 [.agg [vi st.rule,ints (qc 1 st.par.length),ints (qc (1+st.par.length) st.whr.length),.sl 3 (d.map kA)],vi 1]=_;rw[g17];generalize ((1+st.par.length:Nat):Int)=n1 at *;generalize ((1+st.par.length+st.whr.length:Nat):Int)=n2 at *;generalize ((1+st.par.length+st.whr.length+YU st.cls:Nat):Int)=n3 at *;simp only[jo,f1,f2,f3,g1,g2,g3]
theorem jjX(s:Xb):swf (sO (zM s))/\(sO (zM s)).par.length<=12/\(sO (zM s)).whr.length<=12/\YU (sO (zM s)).cls<=100000:=by
 cases h:zM s with
 |none=>exact⟨⟨⟨by decide,by decide⟩,⟨λx hx=>(by cases hx),by decide⟩,⟨λx hx=>(by cases hx),by decide⟩,⟨λl hl=>(by cases hl),by decide⟩⟩,by decide,by decide,by decide⟩
 |some st=>
  obtain⟨h1,_⟩:=jdg h;obtain⟨⟨k,hk,k1,k6⟩,hp,hw,hc⟩:=JE h1;obtain⟨p1,p2⟩:=kZ hp;obtain⟨w1,w2⟩:=kZ hw;have hcn:=(KE hc).1;have small:∀x,ym 0 99 x=true->I64 x:=λx hx=>by obtain⟨n,rfl,hn⟩:=Km hx;exact⟨by omega,by omega⟩
  have tz:∀l∈st.cls,tsz l.2<=300:=λl hl=>JV (hcn.2 l hl).1 (hcn.2 l hl).2;have ls:∀c:kW,(∀l∈c,tsz l.2<=300)->lsz c<=300*c.length:=by
   intro c;induction c with
   |nil=>intro _;exact Nat.zero_le _
   |cons l c ih=>
    intro h;have:=ih λx hx=>h x (List.mem_cons_of_mem _ hx);have:=h l (List.mem_cons_self ..);simp only[lsz,List.length_cons];omega
  have h8:=hcn.1;have hm:=joy st.cls;have hl:=ls st.cls tz;refine⟨⟨?_,⟨λx hx=>small x (p2 x hx),?_⟩,⟨λx hx=>small x (w2 x hx),?_⟩,⟨λl hl=>jat l.2 ?_,?_⟩⟩,p1,w1,?_⟩
  .show I64 st.rule;exact⟨by omega,by omega⟩
  .show st.par.length<=_;omega
  .show st.whr.length<=_;omega
  .have:=tz l hl;omega
  .show st.cls.length<=_;omega
  .show YU st.cls<=_;omega
theorem jdI(s:Xb):G 4 [sv s]=some (vb true,[]):=by
 rw[g4];by_cases hl:1048576<s.length
 .have hl':(1048576:Int)<((s.length:Nat):Int):=by omega
  simp only[jo,hl']
 have hl':¬(1048576:Int)<((s.length:Nat):Int):=by omega
 have hs:s.length<=1048576:=by omega
 have e1:=jdf hs;have e2:=jcf hs;rw[jmC]at e2;obtain⟨hw,b1,b2,b3⟩:=jjX s;have e3:=jqg _ hw;obtain⟨k,d,e4,hd,e5⟩:=jl9 _ hw (by omega);have hk:¬((k:Nat):Int)<0:=by omega
 unfold jtb at e2;generalize sO (zM s)=st at *;generalize (zM s).isSome=b at *;obtain⟨dr,dp,dq,dc⟩:=d;have hd:dr=st.rule:=hd;subst hd;obtain⟨r,p,q,c⟩:=st;have e3:G 15 [.agg [vi r,.sl 1 (p.map ci),.sl 1 (q.map ci),.sl 3 (c.map kA)],.agg [vi r,.sl 1 (p.map ci),.sl 1 (q.map ci),.sl 3 (c.map kA)]]=some (vb true,[]):=e3;have e1:G 13 [sv s]=some (.tup [.agg [vi r,.sl 1 (p.map ci),.sl 1 (q.map ci),.sl 3 (c.map kA)],vb b],[]):=e1;have e2:jgH (sv s)=some (.top,[vi r,vb b,.sl 65 (p.map ci),.sl 65 (q.map ci),.sl 67 (c.map kA)]):=e2;have e4:jkd (vi r) (vi 1) (p.map ci) (q.map ci) (c.map kA)=some (.top,[vi (k:Nat),.sl 65 (dp.map ci),.sl 65 (dq.map ci),.sl 67 (dc.map kA)]):=e4;have e5:G 17 [.agg [vi r,.sl 1 (dp.map ci),.sl 1 (dq.map ci),.sl 3 (dc.map kA)],vi 1]=some (vi (k:Nat),[]):=e5;generalize p.map ci=P at *;generalize q.map ci=Q at *;generalize c.map kA=C at *;generalize dp.map ci=DP at *;generalize dq.map ci=DQ at *;generalize dc.map kA=DC at *;generalize ((k:Nat):Int)=z at *;simp only[jo,hl',e1,e2,e3,e4,e5,hk,List.getElem?_cons_zero,List.getElem?_cons_succ,jsV,juu,jsW,jsX,jnV,zw]
end Go.Proofs.YteoaojbmnibpcaaGreatDoor
