/- Eb -/
import Derived.Test.YthlhadhipnokfaaGreatDoorEa
import Derived.Laws.BytesArg
namespace Go.Proofs.YthlhadhipnokfaaGreatDoor.Abs
open Go Go.RowKit
set_option linter.unusedSimpArgs false
set_option linter.unusedVariables false
noncomputable section
section
variable{X:Ctx}{o:Oper}{ρ:Operand->V}{C:Cfg}{M:Node->Xe}{st:jb}
theorem Z7(hD:kg C.P C.D){t:Nat}(h:Z6 C t=true):C.P.underlying t=some .bool:=by
 unfold Z6 at h;split at h
 .rename_i i hi;have hd:=(hD _ _ hi).desc;split at h
  .rename_i hk;rw[hk]at hd;exact hd
  .cases h
 .cases h
theorem jg(hD:kg C.P C.D){t:Nat}{i:TI}(h:C.D t=some i){k:TK}(hk:i.kind=k):k.desc C.P t:=by
 have:=(hD _ _ h).desc;rwa[hk]at this
theorem jby(hD:kg C.P C.D){s:TypeId}{x:Operand}{f:Nat}(ho:o.op = .field s x f):kE C.P X C M o ρ st (match jS C s f with
  |some (off,j)=>(match ρ x with
   |.agg cs=>if j.kind.plain then(match cs[off]? with|some v=>.val v []|none=>.no)
     else if Nat.ble (off+j.size) cs.length then .val (.agg ((cs.drop off).take j.size)) []else .no
   |.d a=>if j.kind.plain then .opt (.opt (QM off a)) []else .opt (.opt (Yj off j.size a)) []
   |_=>.no)
  |none=>.no):=by
 have hmem:x∈o.op.operands:=by simp[ho,Op.operands]
 split
 .rename_i off j hf;obtain⟨i,fs,t,h1,h2,h3,h4,h5,h6⟩:=ya hD hf;split
  .rename_i cs hx;split
   .rename_i hp;split
    .rename_i v hv;refine⟨jl.same λw O0 m st ev hs hg hr=>?_,by simp⟩;have hx':=hr x hmem;rw[hx]at hx';simp only[relV]at hx';obtain⟨vs,g1,g2⟩:=hx';obtain⟨u,g3,g4⟩:=kP g2 hv;have hl:=(jeM.1 g3).1;obtain⟨z,q1,q2⟩:=jmz (P:=C.P) (w:=w) ho h6 h3 (hD _ _ h4) h5 g1 (by rw[(hD _ _ h4).one hp];omega);rcases q2 with⟨_,q2⟩|⟨q2,_⟩
     .rw [g3]at q2;cases q2;exact⟨_,q1,g4⟩
     .rw [hp]at q2;cases q2
    .trivial
   .rename_i hp;split
    .rename_i hl;rw[jft]at hl;refine⟨jl.same λw O0 m st ev hs hg hr=>?_,by simp⟩;have hx':=hr x hmem;rw[hx]at hx';simp only[relV]at hx';obtain⟨vs,g1,g2⟩:=hx';have hvl:=jw g2;obtain⟨z,q1,q2⟩:=jmz (P:=C.P) (w:=w) ho h6 h3 (hD _ _ h4) h5 g1 (by omega);rcases q2 with⟨q2,_⟩|⟨_,rfl⟩
     .exact absurd q2 hp
     .refine ⟨_,q1,?_⟩;simp only[relV];exact⟨_,rfl,zD _ (zC _ g2)⟩
    .trivial
  .rename_i a hx;split
   .rename_i hp;refine kE.opt1 λr hr=>jl.data λw O0 m st ev hs hg hrel=>?_;have hx':=hrel x hmem;rw[hx]at hx';simp only[relV]at hx';unfold QM at hr;split at hr
    .simp only[rel]at hx';obtain⟨vs,g1,g2⟩:=hx';obtain⟨u,g3,g4⟩:=zB g2 hr;have hl:=(jeM.1 g3).1;obtain⟨z,q1,q2⟩:=jmz (P:=C.P) (w:=w) ho h6 h3 (hD _ _ h4) h5 g1 (by rw[(hD _ _ h4).one hp];omega);rcases q2 with⟨_,q2⟩|⟨q2,_⟩
     .rw [g3]at q2;cases q2;exact⟨_,q1,g4⟩
     .rw [hp]at q2;cases q2
    .cases hr
   .rename_i hp;refine kE.opt1 λr hr=>jl.data λw O0 m st ev hs hg hrel=>?_;have hx':=hrel x hmem;rw[hx]at hx';simp only[relV]at hx';unfold Yj at hr;split at hr
    .split at hr
     .rename_i hl;cases hr;simp only[rel]at hx';obtain⟨vs,g1,g2⟩:=hx';have hvl:=jh g2;obtain⟨z,q1,q2⟩:=jmz (P:=C.P) (w:=w) ho h6 h3 (hD _ _ h4) h5 g1 (by omega);rcases q2 with⟨q2,_⟩|⟨_,rfl⟩
      .exact absurd q2 hp
      .refine ⟨_,q1,?_⟩;simp only[rel];exact⟨_,rfl,kA _ (zu _ g2)⟩
     .cases hr
    .cases hr
  .trivial
 .trivial
theorem Yh(hD:kg C.P C.D){s:TypeId}{x:Operand}{f:Nat}(ho:o.op = .fieldAddr s x f):kE C.P X C M o ρ st (match jS C s f with
  |some (off,j)=>if Nat.beq j.size 0 then .no else(match ρ x with
   |.ptr id p=>.val (.ptr id (p+off)) []
   |.rptr id i k p=>.val (.rptr id i k (p+off)) []
   |.d a=>.opt (.opt (jdk a off)) []
   |_=>.no)
  |none=>.no):=by
 have hmem:x∈o.op.operands:=by simp[ho,Op.operands]
 split
 .rename_i off j hf;obtain⟨i,fs,t,h1,h2,h3,h4,h5,h6⟩:=ya hD hf;split
  .trivial
  .rename_i h0;have h0:j.size≠0:=λe=>h0 (by rw[e];rfl);split
   .rename_i id p hx;refine⟨jl.same λw O0 m st ev hs hg hr=>?_,by simp⟩;have hx':=hr x hmem;rw[hx]at hx';simp only[relV]at hx'⊢;obtain⟨b,c,n,g1,g2⟩:=hx';exact⟨_,zP ho h6 h3 (hD _ _ h4) h0 g2,b,c,n,g1,rfl⟩
   .rename_i id i k p hx;refine⟨jl.same λw O0 m st ev hs hg hr=>?_,by simp⟩;have hx':=hr x hmem;rw[hx]at hx';simp only[relV]at hx'⊢;obtain⟨b,c,n,g1,g2⟩:=hx';exact⟨_,zP ho h6 h3 (hD _ _ h4) h0 g2,b,c,n,g1,by rw[jf9]⟩
   .rename_i a hx;refine kE.opt1 λr hr=>jl.data λw O0 m st ev hs hg hrel=>?_;have hx':=hrel x hmem;rw[hx]at hx';simp only[relV]at hx';unfold jdk at hr;split at hr
    .cases hr;simp only[rel]at hx'⊢;obtain⟨b,o',g1,g2,g3,g4⟩:=hx';exact⟨_,zP ho h6 h3 (hD _ _ h4) h0 g1,b,o',by simp[jf9],g2,g3,g4⟩
    .cases hr
   .trivial
 .trivial
theorem kT{w:World}{O0:Nat->Prop}{m:jq}(hs:Sto X w O0 m st){id k:Nat}{xs:Xc}(hf:st id = .fro k xs){u:Value}(hr:relV w (Ow O0 m st) m (.row id) u):rel w (Ow O0 m st) (.sl k xs) u:=by
 simp only[relV]at hr;obtain⟨hd,h1,h2⟩:=hr;have ho:=hs.obj id;rw[hf]at ho;obtain⟨hd',g1,g2⟩:=ho;rw[h1]at g1;cases g1;exact g2.2 u h2
theorem jaZ{w:World}{O0:Nat->Prop}{m:jq}(hs:Sto X w O0 m st){id k:Nat}{f:Bool}{xs:Xc}(hf:st id = .tre f k xs){u:Value}(hr:relV w (Ow O0 m st) m (.row id) u):∃a c,u = .slice a xs.length c:=by
 simp only[relV]at hr;obtain⟨hd,h1,h2⟩:=hr;have ho:=hs.obj id;rw[hf]at ho;obtain⟨hd',g1,g2,_⟩:=ho;rw[h1]at g1;cases g1;cases hd with
 |none=>simp only[jf]at g2;subst g2;simp only[hdr]at h2;obtain⟨a,rfl⟩:=h2;exact⟨a,0,rfl⟩
 |blk b c n=>simp[jf]at g2
 |mp=>simp[jf]at g2
 |tre f' b c n ks=>simp only[jf]at g2;simp only[hdr]at h2;obtain⟨_,rfl,_⟩:=g2;exact⟨_,_,h2⟩
theorem ZE{w:World}{O0:Nat->Prop}{m:jq}(hs:Sto X w O0 m st){id k:Nat}{xs:Xc}(hf:st id = .row k xs){u:Value}(hr:relV w (Ow O0 m st) m (.row id) u):∃a c,u = .slice a xs.length c:=by
 simp only[relV]at hr;obtain⟨hd,h1,h2⟩:=hr;have ho:=hs.obj id;rw[hf]at ho;obtain⟨hd',g1,g2⟩:=ho;rw[h1]at g1;cases g1;cases hd with
 |none=>simp only[rowOk]at g2;subst g2;simp only[hdr]at h2;obtain⟨a,rfl⟩:=h2;exact⟨a,0,rfl⟩
 |blk b c n=>simp only[hdr]at h2;obtain⟨rfl,_⟩:=g2;exact⟨_,_,h2⟩
 |tre=>exact g2.elim
 |mp=>exact g2.elim
theorem Yi(hD:kg C.P C.D){t:TypeId}{x i:Operand}(ho:o.op = .indexAddr t x i):kE C.P X C M o ρ st (match C.D t,dat (ρ i)with
  |some ti,some n=>(match ti.kind with
   |.slice e=>(match C.D e with
    |some j=>(match ρ x with
     |.d a=>.opt (.opt (kL j.size a n)) []
     |.row id=>(match st id with|.fro k xs=>.opt (.opt (kL j.size (.sl k xs) n)) [.obj id (.fro k xs)]|_=>.no)
     |_=>.no)
    |none=>.no)
   |_=>.no)
  |_,_=>.no):=by
 have hmem:x∈o.op.operands:=by simp[ho,Op.operands]
 have hmem2:i∈o.op.operands:=by simp[ho,Op.operands]
 split
 .rename_i ti n ht hn;split
  .rename_i e hk;split
   .rename_i j hj;split
    .rename_i a hx;refine kE.opt1 λr hr=>jl.data λw O0 m st ev hs hg hrel=>?_;have hx':=hrel x hmem;rw[hx]at hx';simp only[relV]at hx';exact qg ho (jg hD ht hk) (hD _ _ hj) hx' (jm hn (hrel i hmem2)) hr
    .rename_i id hx;split
     .rename_i k xs hst;intro r hr;refine⟨jl.data λw O0 m st' ev hs hg hrel=>?_,by simpa[jC]using hst⟩;have hx':=hrel x hmem;rw[hx]at hx';have hf:st' id = .fro k xs:=hg _ (jdC.2 rfl);exact qg ho (jg hD ht hk) (hD _ _ hj) (kT hs hf hx') (jm hn (hrel i hmem2)) hr
     .trivial
    .trivial
   .trivial
  .trivial
 .trivial
theorem jcg{y:Operand}{a:Xl}(h:(dat (ρ y)).map some=some a):∃b,a=some b/\dat (ρ y)=some b:=by
 rw[jeq]at h;obtain⟨b,h1,rfl⟩:=h;exact⟨b,rfl,h1⟩
theorem jV{lo:Option Operand}{l:Xl}(h:(match lo with|none=>some none|some y=>(dat (ρ y)).map some)=some l):(∀y,lo=some y-> ∃a,l=some a/\dat (ρ y)=some a)/\(lo=none->l=none):=by
 cases lo with
 |none=>simp only[jb4]at h;exact⟨λy hy=>(by cases hy),λ_=>h.symm⟩
 |some y=>exact⟨λz hz=>(by cases hz;exact jcg h),λhz=>(by cases hz)⟩
theorem ok_slice(hD:kg C.P C.D){t:TypeId}{x:Operand}{lo hi:Option Operand}(ho:o.op = .slice t x lo hi none):kE C.P X C M o ρ st (match C.D t with
  |some ti=>(match ti.kind with
   |.slice e=>(match C.D e with
    |some j=>(match(match ρ x with
      |.d a=>some (a,[])
      |.row id=>(match st id with|.fro k xs=>some (A.sl k xs,[Rd.obj id (.fro k xs)])|_=>none)
      |_=>none),(match lo with|none=>some none|some y=>(dat (ρ y)).map some),(match hi with|none=>some none|some y=>(dat (ρ y)).map some)with
     |some (a,rds),some l,some h=>.opt (.opt (Jy j.size a l h)) rds
     |_,_,_=>.no)
    |none=>.no)
   |.str=>(match dat (ρ x),(match lo with|none=>some none|some y=>(dat (ρ y)).map some),(match hi with|none=>some none|some y=>(dat (ρ y)).map some)with
    |some a,some l,some h=>.opt (.opt (Kb a l h)) []
    |_,_,_=>.no)
   |_=>.no)
  |none=>.no):=by
 have hmem:x∈o.op.operands:=by simp[ho,Op.operands]
 have hlo:∀y,lo=some y->y∈o.op.operands:=λy hy=>by simp[ho,Op.operands,hy]
 have hhi:∀y,hi=some y->y∈o.op.operands:=λy hy=>by simp[ho,Op.operands,hy]
 split
 .rename_i ti ht;split
  .rename_i e hk;split
   .rename_i j hj;split
    .rename_i a rds l h h1 h2 h3;obtain⟨l1,l2⟩:=jV h2;obtain⟨u1,u2⟩:=jV h3;intro r hr;refine⟨jl.data λw O0 m st' ev hs hg hrel=>?_,?_⟩
     .have hx':rel w (Ow O0 m st') a (ev x):=by
       have hx':=hrel x hmem;split at h1
       .rename_i a' hx;cases h1;rw[hx]at hx';simpa only[relV]using hx'
       .rename_i id hx;split at h1
        .rename_i k xs hst;cases h1;rw[hx]at hx';exact kT hs (hg _ (jdC.2 rfl)) hx'
        .cases h1
       .cases h1
      refine ZG ho (jg hD ht hk) (hD _ _ hj) hx' (λy hy=>?_) l2 (λy hy=>?_) u2 hr
      .obtain ⟨b,hb,hd⟩:=l1 y hy;exact⟨b,hb,jm hd (hrel y (hlo y hy))⟩
      .obtain ⟨b,hb,hd⟩:=u1 y hy;exact⟨b,hb,jm hd (hrel y (hhi y hy))⟩
     .split at h1
      .cases h1;simp
      .split at h1
       .rename_i hst;cases h1;simpa[jC]using hst
       .cases h1
      .cases h1
    .trivial
   .trivial
  .rename_i hk;split
   .rename_i a l h h1 h2 h3;obtain⟨l1,l2⟩:=jV h2;obtain⟨u1,u2⟩:=jV h3;refine kE.opt1 λr hr=>jl.data λw O0 m st' ev hs hg hrel=>?_;refine QV ho (jg hD ht hk) (jm h1 (hrel x hmem)) (λy hy=>?_) l2 (λy hy=>?_) u2 hr
    .obtain ⟨b,hb,hd⟩:=l1 y hy;exact⟨b,hb,jm hd (hrel y (hlo y hy))⟩
    .obtain ⟨b,hb,hd⟩:=u1 y hy;exact⟨b,hb,jm hd (hrel y (hhi y hy))⟩
   .trivial
  .trivial
 .trivial
theorem jaE(hD:kg C.P C.D){t:TypeId}{x l h m:Operand}(ho:o.op = .slice t x (some l) (some h) (some m)):kE C.P X C M o ρ st (if !Ky l h m then .no else match C.D t,ρ l,ρ h,ρ m with
  |some ti,.d (.val (.int _ 0)),.d (.val (.int _ 0)),.d (.val (.int _ 0))=>(match ti.kind with
   |.slice e=>(match C.D e with
    |some _=>(match ρ x with
     |.row id=>(match st id with|.row k xs=>.val (.nil k) [.obj id (.row k xs)]|.fro k xs=>.val (.nil k) [.obj id (.fro k xs)]|_=>.no)
     |.nil k=>.val (.nil k) []
     |_=>.no)
    |none=>.no)
   |_=>.no)
  |_,_,_,_=>.no):=by
 have m1:x∈o.op.operands:=by simp[ho,Op.operands]
 have m2:l∈o.op.operands:=by simp[ho,Op.operands]
 have m3:h∈o.op.operands:=by simp[ho,Op.operands]
 have m4:m∈o.op.operands:=by simp[ho,Op.operands]
 split
 .trivial
 split
 .rename_i ti k1 k2 k3 ht hl hh hm;split
  .rename_i e hk;split
   .rename_i j hj;have key:∀(w:World)(O0:Nat->Prop)(mm:jq)(st:jb)(ev:Operand->Value),(∀x∈o.op.operands,relV w (Ow O0 mm st) mm (ρ x) (ev x))-> ∀a n c,ev x = .slice a n c->
      ∃u,(execOp ev o).run C.P w = .ok (.value u) w/\ ∀k,relV w (Ow O0 mm st) mm (.nil k) u:=by
     intro w O0 mm st ev hr a n c hx;have e1:=hr l m2;have e2:=hr h m3;have e3:=hr m m4;rw[hl]at e1;rw[hh]at e2;rw[hm]at e3;simp only[relV,rel]at e1 e2 e3⊢;exact⟨_,KX ho (jg hD ht hk) (hD _ _ hj) hx e1 e2 e3,λ_=>⟨a,rfl⟩⟩
    split
    .rename_i id hx;split
     .rename_i k xs hst;refine⟨jl.same λw O0 mm st' ev hs hg hr=>?_,by simpa[jC]using hst⟩;have hx':=hr x m1;rw[hx]at hx';obtain⟨a,c,hv⟩:=ZE hs (hg _ (jdC.2 rfl)) hx';obtain⟨u,k1,k2⟩:=key w O0 mm st' ev hr _ _ _ hv;exact⟨u,k1,k2 _⟩
     .rename_i k xs hst;refine⟨jl.same λw O0 mm st' ev hs hg hr=>?_,by simpa[jC]using hst⟩;have hx':=hr x m1;rw[hx]at hx';have:=kT hs (hg _ (jdC.2 rfl)) hx';simp only[rel]at this;obtain⟨a,c,hv,_⟩:=this;obtain⟨u,k1,k2⟩:=key w O0 mm st' ev hr _ _ _ hv;exact⟨u,k1,k2 _⟩
     .trivial
    .rename_i hx;refine⟨jl.same λw O0 mm st' ev hs hg hr=>?_,by simp⟩;have hx':=hr x m1;rw[hx]at hx';simp only[relV]at hx';obtain⟨a,hv⟩:=hx';obtain⟨u,k1,k2⟩:=key w O0 mm st' ev hr _ _ _ hv;exact⟨u,k1,k2 _⟩
    .trivial
   .trivial
  .trivial
 .trivial
theorem jbx(hD:kg C.P C.D){t:TypeId}{ps:Array (Nat×Operand)}(ho:o.op = .build t ps):kE C.P X C M o ρ st (match C.D t with
  |some i=>(match i.kind with
   |.struct fs=>(match yv (zeroV C t i),Jp (kV C fs (ps.toList.map λp=>(p.1,ρ p.2)))with
    |some z,some l=>if zI C fs then(if jbU (kV C fs (ps.toList.map λp=>(p.1,ρ p.2))) (zeroV C t i) fs.length then .opt (.opt (Jt (jS C t) z l)) []else .no)else .no
    |_,_=>.no)
   |_=>.no)
  |none=>.no):=by
 split
 .rename_i i hi;split
  .rename_i fs hk;split
   .rename_i z l hz hl;split
    .rename_i hfs;split;rotate_left
     .trivial
     refine kE.opt1 λr hr=>jl.data λw O0 m st' ev hs hg hrel=>?_;have h1:ja w (Ow O0 m st') m ((ps.toList.map λp=>(p.1,ρ p.2)).map Prod.snd) ((ps.toList.map λp=>(p.1,ev p.2)).map Prod.snd):=by
      rw[jfs,jfs];have:=jN (w:=w) (O:=Ow O0 m st') (m:=m) (ρ:=ρ) (ev:=ev) (ps.toList.map Prod.snd) λx hx=>hrel x (by
       rw[ho];simp only[Op.operands];simpa using hx)
      rw[jfs,jfs]at this;exact this
     obtain⟨h2,h3⟩:=yC (C:=C) (fs:=fs) h1;obtain⟨h4,h5⟩:=Kk hl h2;obtain⟨cells',h6,h7⟩:=Zm (sz:=jS C t) (λq off j hq hp=>by
      obtain⟨_,_,_,_,_,_,g4,_⟩:=ya hD hq;exact(hD _ _ g4).one hp) l (ps.toList.map λp=>(p.1,ev p.2)) z i.zero.cells r (jW (m:=m) hz (jH t i)) (by
       rw[h5,h3];simp) h4 hr
     exact⟨_,run_build hD ho hi hk hfs h6,h7⟩
    .trivial
   .trivial
  .trivial
 .trivial
theorem jct(hM:zS X C M){f:Operand}{xs:Array Operand}{ts:Array TypeId}(ho:o.op = .call { callee:= .value f,args:=xs,argTypes:=ts }):kE C.P X C M o ρ st (match ρ f with
   |.fn g caps=>(match C.sig g with
    |some _=>if C.both g && (!C.sl g && (!(C.stf g || C.srf g && Qz (xs.toList.map ρ)) && !jag C (xs.toList.map ρ)))then(match jiR st 60 (zk C.D ts.toList (xs.toList.map ρ)++caps)with|some (as,rds)=>.opt (.call g as (ku rds)) rds|none=>.no)else .no
    |none=>(match jiR st 60 (zk C.D ts.toList (xs.toList.map ρ)++caps)with
     |some (as,rds)=>.opt (.call g as (ku rds)) rds
     |none=>.no))
   |.d a=>(match jiR st 60 (zk C.D ts.toList (xs.toList.map ρ))with
    |some (as,rds)=>.opt (.callc a as (ku rds)) rds
    |none=>.no)
   |_=>.no):=by
 have mf:f∈o.op.operands:=by simp[ho,Op.operands,Call.operands]
 have mx:∀x∈xs.toList,x∈o.op.operands:=λx hx=>by simp[ho,Op.operands,Call.operands];exact Or.inr (by simpa using hx)
 split
 .rename_i g caps hf;have gen:∀as rds,jiR st 60 (zk C.D ts.toList (xs.toList.map ρ)++caps)=some (as,rds)->C.pureF g=true->kE C.P X C M o ρ st (.opt (.call g as (ku rds)) rds):=by
   intro as rds hto hsig a ha;simp only[DX.run]at ha;rw[jcv]at ha;obtain⟨out,h1,h2⟩:=ha;have hp:=hM g as out hsig h1;refine⟨jl.call ho hp (λw O0 m st' ev hs hg hr=>?_) h2,?_⟩
   .have hf':=hr f mf;rw[hf]at hf';simp only[relV]at hf';obtain⟨us,g1,g2⟩:=hf';have g3:=jN (w:=w) (O:=Ow O0 m st') (m:=m) (ρ:=ρ) (ev:=ev) xs.toList λx hx=>hr x (mx x hx);exact⟨us,g1,kG hs 60 _ (kH 60 _ hto hg) (jz (jM g3) g2)⟩
   .exact λr hr=>jjq 60 _ hto r hr
  split
  .split
   .rename_i hb;split
    .rename_i as rds hto;rw[jbX]at hb;exact gen as rds hto (by simp[Cfg.pureF,hb.1])
    .trivial
   .trivial
  .rename_i hsig;split
   .rename_i as rds hto;exact gen as rds hto (by simp[Cfg.pureF,hsig])
   .trivial
 .rename_i fa hf;split
  .rename_i as rds hto;intro a ha;simp only[DX.run]at ha;split at ha
   .rename_i g caps;split at ha
    .rename_i hsig;rw[jcv]at ha;obtain⟨out,h1,h2⟩:=ha;have hp:=hM g _ out (by simpa using hsig) h1;refine⟨jl.call ho hp (λw O0 m st' ev hs hg hr=>?_) h2,?_⟩
     .have hf':=hr f mf;rw[hf]at hf';simp only[relV,rel]at hf';obtain⟨us,g1,g2⟩:=hf';have g3:=jN (w:=w) (O:=Ow O0 m st') (m:=m) (ρ:=ρ) (ev:=ev) xs.toList λx hx=>hr x (mx x hx);exact⟨us,g1,jA (kG hs 60 _ (kH 60 _ hto hg) (jM g3)) (jo (MonoW.sub (Jn _)) _ _ g2)⟩
     .exact λr hr=>jjq 60 _ hto r hr
    .cases ha
   .cases ha
  .trivial
 .trivial
theorem JO:∀{xs:Xc}{ns:Xi},bytesOf xs=some ns->ns.length=xs.length/\ ∀(i:Nat)(n:Int),ns[i]? = some n->xs[i]? = some [.val (.int .u8 n)]
 | [],ns,h=>by simp only[bytesOf]at h;cases h;simp
 |x::xs,ns,h=>by
  unfold bytesOf at h;split at h
  .rename_i e;cases e
  .rename_i n r e;cases e;obtain⟨l,hl,rfl⟩:=jeq.1 h;obtain⟨h1,h2⟩:=JO hl;refine⟨by simp[h1],λi m hi=>?_⟩;cases i with
   |zero=>simp at hi;subst hi;rfl
   |succ i=>simpa using h2 i m (by simpa using hi)
  .cases h
theorem Y6{a r:A}(h:KI a=some r):kX r=true:=by
 unfold KI at h;split at h
 .obtain ⟨ns,_,rfl⟩:=jeq.1 h;rfl
 .cases h
theorem jaO{P:Program}{w:World}{O:Nat->Prop}{o:Oper}{ev:Operand->Value}{s d e:TypeId}{x:Operand}(ho:o.op = .convert s d x)(hs:P.underlying s=some (.slice e))(he:P.underlying e=some (.int .u8))(hd:P.underlying d=some .string){a:A}(hx:rel w O a (ev x)){r:A}(h:KI a=some r) :
  ∃z,(execOp ev o).run P w = .ok (.value z) w/\rel w O r z:=by
 unfold KI at h;split at h
 .rename_i k xs;obtain⟨ns,hns,rfl⟩:=jeq.1 h;obtain⟨hl,hget⟩:=JO hns;simp only[rel]at hx;obtain⟨ad,cap,hv,_,_,hor⟩:=hx;have hconv:(convert s d (ev x)).run P w = .ok (.string (Go.strOfNums ns)) w:=by
   rw[hv];rcases hor with rfl|⟨b,off,rfl,_,_,hrows⟩
   .have hn0:ns=[]:=by simpa using hl
    subst hn0;rw[run_convert_bytes_string w s d e _ _ cap hs he hd];cases ad with
    |none=>simp[Conv.bytesToString,jdA];rfl
    |some ad=>
     rw[run_bytesToString w ad _ cap [] (by simp[loadCells,loadCellsFrom,jdA])];rfl
   .refine run_convert_bytes_arg w s e hs he b off xs.length cap ns hl (λi hi=>?_) d hd;have hi':i<ns.length:=by omega
    have hx:=hget i ns[i] (jam hi');obtain⟨g1,g2⟩:=zJ hrows hx;simp only[jfC,jfJ]at g1;rw[<-g1,Nat.mul_one]at g2;simp only[jK]at g2;obtain⟨⟨v,q1,_,q2⟩,_⟩:=g2;simp only[rel]at q2;rw[q1,q2];simp[jcQ,hi']
  refine⟨.string (Go.strOfNums ns),?_,?_⟩
  .simp [execOp,ho,hconv]
  .simp only[rel,strOfNums]
 .cases h
theorem Zl(hD:kg C.P C.D)(hM:zS X C M):kE C.P X C M o ρ st (evD C o ρ st):=by
 unfold evD;split
 .rename_i x ho;refine⟨jl.same λw O0 m st ev hs hg hr=>⟨_,run_move (Or.inl ho) w,jO (hr x (by simp[ho,Op.operands]))⟩,by simp⟩
 .rename_i x ho;refine⟨jl.same λw O0 m st ev hs hg hr=>⟨_,run_move (Or.inr ho) w,jO (hr x (by simp[ho,Op.operands]))⟩,by simp⟩
 .rename_i c a b ho;split
  .rename_i c' a' b' hc ha hb;refine kE.opt1 λr hr=>jl.data λw O0 m st ev hs hg hrel=>?_;unfold jcX at hr;rw[jeq]at hr;obtain⟨t,h1,rfl⟩:=hr;have h2:=jm hc (hrel c (by simp[ho,Op.operands]));unfold qf at h1;split at h1
   .cases h1;simp only[rel]at h2;refine⟨_,jbK ho h2,?_⟩;cases t
    .exact jm hb (jO (hrel b (by simp[ho,Op.operands])))
    .exact jm ha (jO (hrel a (by simp[ho,Op.operands])))
   .cases h1
  .trivial
 .rename_i op t x y u ho;split
  .trivial
  split
  .rename_i a b ha hb;refine kE.opt1 λr hr=>jl.data λw O0 m st ev hs hg hrel=>?_;exact jcA ho (Z7 hD) (jm ha (hrel x (by simp[ho,Op.operands]))) (jm hb (hrel y (by simp[ho,Op.operands]))) hr
  .trivial
 .rename_i op t x ho;split
  .rename_i a ha;refine kE.opt1 λr hr=>jl.data λw O0 m st ev hs hg hrel=>?_;exact jdt ho (jm ha (hrel x (by simp[ho,Op.operands]))) hr
  .trivial
 .rename_i t x ho;obtain⟨h1,h2⟩:=Z4 (X:=X) (ρ:=ρ) hD ho (st:=st);cases he:kK C t (ρ x) st with
  |no=>trivial
  |val v rds=>exact h1 v rds he
  |opt y rds=>
   cases y with
   |opt y=>exact λa ha=>h2 y rds a he ha
   |_=>
    exfalso;unfold kK at he
    repeat' (first|split at he|cases he)
 .rename_i s x f ho;exact Yh hD ho
 .rename_i s x f ho;exact jby hD ho
 .rename_i t x i ho;exact Yi hD ho
 .rename_i t x i ho;split
  .rename_i ti a n ht ha hn;split
   .rename_i hk;refine kE.opt1 λr hr=>jl.data λw O0 m st ev hs hg hrel=>?_;exact QU ho (jg hD ht hk) (jm ha (hrel x (by simp[ho,Op.operands]))) (jm hn (hrel i (by simp[ho,Op.operands]))) hr
   .trivial
  .trivial
 .rename_i t x k c ho;split
  .rename_i ti ka ht hka;split
   .rename_i kt et hk;have hu:=jg hD ht hk;split
    .rename_i ki ei hki hei;split
     .rename_i ks z hks hz;split
      .rename_i hzo;have hkt:=Zq hks (hD _ _ hki).desc;split
       .rename_i a hx;refine kE.opt1 λr hr=>jl.data λw O0 m st ev hs hg hrel=>?_;have hx':=hrel x (by simp[ho,Op.operands]);rw[hx]at hx';simp only[relV]at hx';have hk':=jm hka (hrel k (by simp[ho,Op.operands]));unfold jak at hr;split at hr
        .rename_i hok;obtain⟨xs,g1,g2⟩:=jcv.1 hr;rw[jeq]at g2;obtain⟨r',g2,rfl⟩:=g2;exact Qh ho hu hkt (hD _ _ hei) hzo hz (jcp g1 hx') hk' hok g2
        .cases hr
       .rename_i id hx;split
        .rename_i xs hst;intro r hr;refine⟨jl.data λw O0 m st' ev hs hg hrel=>?_,by simpa[jC]using hst⟩;have hx':=hrel x (by simp[ho,Op.operands]);rw[hx]at hx';have hst':st' id = .map xs:=hg _ (jdC.2 rfl);have hk':=jm hka (hrel k (by simp[ho,Op.operands]));simp only[DX.run]at hr;unfold jak at hr;split at hr
         .rename_i hok;obtain⟨xs',g1,g2⟩:=jcv.1 hr;simp only[jco,jb4]at g1;subst g1;rw[jeq]at g2;obtain⟨r',g2,rfl⟩:=g2;obtain⟨b,es,clock,_,q2,q3,q4⟩:=jbu hs hst' hx';exact Qh ho hu hkt (hD _ _ hei) hzo hz (Or.inr ⟨b,es,clock,q2,q3,q4⟩) hk' hok g2
         .cases hr
        .trivial
       .trivial
      .trivial
     .trivial
    .trivial
   .trivial
  .trivial
 .rename_i t x lo hi ho;exact ok_slice hD ho
 .rename_i t x l h m ho;exact jaE hD ho
 .rename_i s d x ho;split
  .rename_i si di hs' hd;split
   .rename_i k k' hk hk';split
    .rename_i a ha;refine kE.opt1 λr hr=>jl.data λw O0 m st ev hs hg hrel=>?_;exact jbJ ho ⟨_,jg hD hs' hk⟩ (jg hD hd hk') (jm ha (hrel x (by simp[ho,Op.operands]))) hr
    .trivial
   .rename_i e hk hk';split
    .rename_i j a rds hj ha;split
     .rename_i hj';intro r hr;refine⟨jl.data λw O0 m st' ev hs hg hrel=>?_,Kg 60 _ ha⟩;have ha':=jau 60 _ ha hg;obtain⟨z,q1,q2⟩:=jaO ho (jg hD hs' hk) (jg hD hj hj') (jg hD hd hk') (Kc hs 60 _ ha' (hrel x (by simp[ho,Op.operands]))) hr;exact⟨z,q1,yF r z (Y6 hr) q2⟩
     .trivial
    .trivial
   .trivial
  .trivial
 .rename_i g fs cs ho;split
  .rename_i h0;obtain rfl:fs = #[]:=by simpa using h0
   refine⟨jl.same λw O0 m st ev hs hg hr=>?_,by simp⟩;have h2:=jN (w:=w) (O:=Ow O0 m st) (m:=m) (ρ:=ρ) (ev:=ev) cs.toList λx hx=>hr x (by simp[ho,Op.operands];simpa using hx);have e:(cs.toList.map ev).toArray=cs.map ev:=by rw[<-jfu,Array.toArray_toList]
   refine⟨.func (.func g) #[] (cs.map ev),by simp only[execOp,ho,Instr.makeFunc,jbY,jdA,jbW];simp,?_⟩
   simp only[relV];exact⟨cs.toList.map ev,by rw[e],h2⟩
  .trivial
 .rename_i x n ho;split
  .rename_i cs hx;split
   .rename_i v hv;refine⟨jl.same λw O0 m st ev hs hg hr=>?_,by simp⟩;have hx':=hr x (by simp[ho,Op.operands]);rw[hx]at hx';simp only[relV]at hx';obtain⟨vs,h1,h2⟩:=hx';obtain⟨u,h3,h4⟩:=kP h2 hv;exact⟨u,J1 ho h1 h3,h4⟩
   .trivial
  .rename_i a hx;refine kE.opt1 λr hr=>jl.data λw O0 m st ev hs hg hrel=>?_;have hx':=hrel x (by simp[ho,Op.operands]);rw[hx]at hx';simp only[relV]at hx';unfold jd5 at hr;split at hr
   .simp only[rel]at hx';obtain⟨vs,h1,h2⟩:=hx';obtain⟨u,h3,h4⟩:=zB h2 hr;exact⟨u,J1 ho h1 h3,h4⟩
   .cases hr
  .trivial
 .rename_i x ho;have m1:x∈o.op.operands:=by simp[ho,Op.operands]
  split
  .rename_i id off hx;refine⟨jl.same λw O0 m st ev hs hg hr=>?_,by simp⟩;have hx':=hr x m1;rw[hx]at hx';have h2:=hx';simp only[relV]at hx';obtain⟨b,c,n,_,h1⟩:=hx';exact⟨ev x,by simp[execOp,ho,h1],h2⟩
  .rename_i id i k j hx;refine⟨jl.same λw O0 m st ev hs hg hr=>?_,by simp⟩;have hx':=hr x m1;rw[hx]at hx';have h2:=hx';simp only[relV]at hx';obtain⟨b,c,n,_,h1⟩:=hx';exact⟨ev x,by simp[execOp,ho,h1],h2⟩
  .rename_i f cs hx;refine⟨jl.same λw O0 m st ev hs hg hr=>?_,by simp⟩;have hx':=hr x m1;rw[hx]at hx';have h2:=hx';simp only[relV]at hx';obtain⟨vs,h1,_⟩:=hx';exact⟨ev x,by simp[execOp,ho,h1],h2⟩
  .rename_i a hx;refine kE.opt1 λr hr=>jl.data λw O0 m st ev hs hg hrel=>?_;have hx':=hrel x m1;rw[hx]at hx';simp only[relV]at hx';have h2:=hx';unfold jd3 at hr;split at hr
   .cases hr;simp only[rel]at hx';obtain⟨b,o',h1,_⟩:=hx';exact⟨ev x,by simp[execOp,ho,h1],h2⟩
   .cases hr;simp only[rel]at hx';obtain⟨vs,h1,_⟩:=hx';exact⟨ev x,by simp[execOp,ho,h1],h2⟩
   .cases hr
  .trivial
 .rename_i t ps ho;exact jbx hD ho
 .rename_i c ho;obtain⟨callee,args,ts⟩:=c;dsimp only;split
  .split
   .rename_i x t hxs hts;obtain⟨y,rfl⟩:∃y,args = #[y]:=by
     obtain⟨l⟩:=args;simp only at hxs;subst hxs;exact⟨_,rfl⟩
    obtain rfl:ts = #[t]:=by apply je7;simpa using hts
    simp only[jfk,and_true]at hxs;subst hxs;have m1:y∈o.op.operands:=by simp[ho,Op.operands,Call.operands]
    split
    .rename_i ti ht;split
     .rename_i e hk;have hu:=jg hD ht hk;split
      .rename_i hx;refine⟨jl.data λw O0 m st ev hs hg hr=>?_,by simp⟩;have hx':=hr y m1;rw[hx]at hx';simp only[relV]at hx';obtain⟨a,h1⟩:=hx';exact⟨_,run_len_slice ho rfl rfl hu h1,by simp[rel]⟩
      .rename_i id hx;split
       .rename_i k xs hst;refine⟨jl.data λw O0 m st' ev hs hg hr=>?_,by simp[jC,hst]⟩;have hx':=hr y m1;rw[hx]at hx';obtain⟨xs',g1,g2⟩:=hg _ (jdC.2 rfl);obtain⟨a,c,hv⟩:=ZE hs g1 hx';exact⟨_,run_len_slice ho rfl rfl hu hv,by simp[jaK,rel,g2]⟩
       .rename_i k xs hst;refine⟨jl.data λw O0 m st' ev hs hg hr=>?_,by simpa[jC]using hst⟩;have hx':=hr y m1;rw[hx]at hx';have:=kT hs (hg _ (jdC.2 rfl)) hx';simp only[rel]at this;obtain⟨a,c,hv,_⟩:=this;exact⟨_,run_len_slice ho rfl rfl hu hv,by simp[jaK,rel]⟩
       .rename_i f' k xs hst;refine⟨jl.data λw O0 m st' ev hs hg hr=>?_,by simp[jC,hst]⟩;have hx':=hr y m1;rw[hx]at hx';obtain⟨xs',g1,g2⟩:=hg _ (jdC.2 rfl);obtain⟨a,c,hv⟩:=jaZ hs g1 hx';exact⟨_,run_len_slice ho rfl rfl hu hv,by simp[jaK,rel,g2]⟩
       .trivial
      .rename_i a hx;refine kE.opt1 λr hr=>jl.data λw O0 m st ev hs hg hrel=>?_;have hx':=hrel y m1;rw[hx]at hx';simp only[relV]at hx';unfold jcV at hr;split at hr
       .cases hr;simp only[rel]at hx';obtain⟨a,c,h1,_⟩:=hx';exact⟨_,run_len_slice ho rfl rfl hu h1,by simp[rel]⟩
       .cases hr
      .rename_i id k off n hx;refine⟨jl.data λw O0 m st ev hs hg hr=>?_,by simp⟩;have hx':=hr y m1;rw[hx]at hx';simp only[relV]at hx';obtain⟨hd,_,h1⟩:=hx';obtain⟨a,c,h1⟩:∃a c,ev y = .slice a n c:=by
        cases hd with
        |none=>simp only[km]at h1;obtain⟨_,rfl,a,h1⟩:=h1;exact⟨a,0,h1⟩
        |blk b c l=>simp only[km]at h1;obtain⟨_,q,h1,_⟩:=h1;exact⟨_,_,h1⟩
        |tre=>exact h1.elim
        |mp=>exact h1.elim
       exact⟨_,run_len_slice ho rfl rfl hu h1,by simp[rel,nA]⟩
      .trivial
     .rename_i hk;have hu:=jg hD ht hk;split
      .rename_i a ha;refine kE.opt1 λr hr=>jl.data λw O0 m st ev hs hg hrel=>?_;have hx':=jm ha (hrel y m1);unfold jcW at hr;split at hr
       .cases hr;simp only[rel]at hx';exact⟨_,Qg ho rfl rfl hu hx',by simp[rel,Ji]⟩
       .cases hr
      .trivial
     .trivial
    .trivial
   .trivial
  .split
   .rename_i x y hxs;obtain rfl:args = #[x,y]:=by apply je7;simpa using hxs
    split
    .rename_i a b ha hb;refine kE.opt1 λr hr=>jl.data λw O0 m st ev hs hg hrel=>?_;exact jcD ho rfl (jm ha (hrel x (by simp[ho,Op.operands,Call.operands]))) (jm hb (hrel y (by simp[ho,Op.operands,Call.operands]))) hr
    .trivial
   .trivial
  .split
   .rename_i x y hxs;obtain rfl:args = #[x,y]:=by apply je7;simpa using hxs
    split
    .rename_i a b ha hb;refine kE.opt1 λr hr=>jl.data λw O0 m st ev hs hg hrel=>?_;exact jcE ho rfl (jm ha (hrel x (by simp[ho,Op.operands,Call.operands]))) (jm hb (hrel y (by simp[ho,Op.operands,Call.operands]))) hr
    .trivial
   .trivial
  .exact jct hM ho
  .trivial
 .trivial
end
end
noncomputable section
mutual
def jeb:V->Xf
 |.ptr id _=>[id]
 |.row id=>[id]
 |.rptr id _ _ _=>[id]
 |.win id _ _ _=>[id]
 |.sub id _ _ _=>[id]
 |.agg cs=>Jd cs
 |.tup cs=>Jd cs
 |.fn _ cs=>Jd cs
 |_=>[]
def Jd:Xj->Xf
 | []=>[]
 |c::cs=>jeb c++Jd cs
end
def jea:Obj->Xf
 |.box cs=>Jd cs
 |_=>[]
def y5(x:Nat):Xf->Bool
 | []=>false
 |y::ys=>Nat.beq x y || y5 x ys
def reach(st:jb):Nat->Xf->Xf->Xf
 |0,_,done=>done
 |_+1,[],done=>done
 |n+1,id::todo,done=>if y5 id done then reach st n todo done else reach st n (todo++jea (st id)) (done++[id])
def zj(x:Nat):Xf->Nat->Option Nat
 | [],_=>none
 |y::ys,i=>if Nat.beq x y then some i else zj x ys (i+1)
def Jw:Xf->Bool
 | []=>true
 |x::xs=> !y5 x xs && Jw xs
mutual
def ren(ids:Xf):V->V
 |.ptr id off=>(match zj id ids 0 with|some i=>.ptr i off|none=>.top)
 |.row id=>(match zj id ids 0 with|some i=>.row i|none=>.top)
 |.rptr id i k j=>(match zj id ids 0 with|some q=>.rptr q i k j|none=>.top)
 |.win id k off n=>(match zj id ids 0 with|some q=>.win q k off n|none=>.top)
 |.sub id i k j=>(match zj id ids 0 with|some q=>.sub q i k j|none=>.top)
 |.agg cs=>.agg (y9 ids cs)
 |.tup cs=>.tup (y9 ids cs)
 |.fn f cs=>.fn f (y9 ids cs)
 |v=>v
def y9(ids:Xf):Xj->Xj
 | []=>[]
 |c::cs=>ren ids c::y9 ids cs
end
def Ym(ids:Xf):Obj->Obj
 |.box cs=>.box (y9 ids cs)
 |o=>o
mutual
def kJ:V->Nat->V×List Obj
 |.nil k,n=>(.row n,[.row k []])
 |.agg cs,n=>(match zg cs n with|(cs',os)=>(.agg cs',os))
 |.tup cs,n=>(match zg cs n with|(cs',os)=>(.tup cs',os))
 |.fn f cs,n=>(match zg cs n with|(cs',os)=>(.fn f cs',os))
 |v,_=>(v,[])
def zg:Xj->Nat->Xj×List Obj
 | [],_=>([],[])
 |c::cs,n=>(match kJ c n with|(c',os)=>(match zg cs (n+os.length)with|(cs',os')=>(c'::cs',os++os')))
end
def kq:List Obj->Nat->List Obj×List Obj
 | [],_=>([],[])
 |.box cs::l,n=>(match zg cs n with|(cs',os)=>(match kq l (n+os.length)with|(l',os')=>(.box cs'::l',os++os')))
 |o::l,n=>(match kq l n with|(l',os')=>(o::l',os'))
theorem j7{x:Nat} :∀{l:Xf}{i j:Nat},zj x l i=some j-> ∃q,j=i+q/\l[q]? = some x
 | [],_,_,h=>by cases h
 |y::ys,i,j,h=>by
  simp only[zj]at h;split at h
  .rename_i hb;cases h;exact⟨0,rfl,by simp[jah hb]⟩
  .obtain ⟨q,h1,h2⟩:=j7 h;exact⟨q+1,by omega,by simpa using h2⟩
theorem Kw{x:Nat} :∀{l:Xf},y5 x l=true↔x∈l
 | []=>by simp[y5]
 |y::ys=>by
  simp only[y5,Bool.or_eq_true,ja1];rw[Kw];exact or_congr ⟨jah,λe=>by simp[e]⟩ Iff.rfl
theorem yX:∀{l:Xf},Jw l=true->l.Nodup
 | [],_=>List.nodup_nil
 |x::xs,h=>by
  simp only[Jw,jbX,jfl]at h;refine List.nodup_cons.mpr ⟨λhm=>?_,yX h.2⟩;rw[Kw.mpr hm]at h;cases h.1
section
variable{w:World}{O O':Nat->Prop}{m m':jq}{ids:Xf}
mutual
theorem jcx(h:MonoW w O w O')(hm:∀q id,ids[q]? = some id-> ∀hd,m id=some hd->m' q=some hd):∀(v:V)(u:Value),relV w O m v u->relV w O' m' (ren ids v) u
 |.top,_,_=>by simp[ren,relV]
 |.nil _,v,hr=>by simpa[ren,relV]using hr
 |.ub _ _,v,hr=>by simpa[ren,relV]using hr
 |.d a,v,hr=>by simp only[ren,relV]at hr⊢;exact js h a v hr
 |.agg cs,v,hr=>by
  simp only[ren,relV]at hr⊢;obtain⟨vs,h1,h2⟩:=hr;exact⟨vs,h1,kZ h hm cs vs h2⟩
 |.tup cs,v,hr=>by
  simp only[ren,relV]at hr⊢;obtain⟨vs,h1,h2⟩:=hr;exact⟨vs,h1,kZ h hm cs vs h2⟩
 |.fn f cs,v,hr=>by
  simp only[ren,relV]at hr⊢;obtain⟨vs,h1,h2⟩:=hr;exact⟨vs,h1,kZ h hm cs vs h2⟩
 |.ptr id off,v,hr=>by
  simp only[ren,relV]at hr⊢;obtain⟨b,c,n,h1,h2⟩:=hr;cases hi:zj id ids 0 with
  |none=>simp[relV]
  |some i=>
   obtain⟨q,e1,e2⟩:=j7 hi;simp only[relV];exact⟨b,c,n,by rw[show i=q by omega];exact hm q id e2 _ h1,h2⟩
 |.row id,v,hr=>by
  simp only[ren,relV]at hr⊢;obtain⟨hd,h1,h2⟩:=hr;cases hi:zj id ids 0 with
  |none=>simp[relV]
  |some i=>
   obtain⟨q,e1,e2⟩:=j7 hi;simp only[relV];exact⟨hd,by rw[show i=q by omega];exact hm q id e2 _ h1,h2⟩
 |.rptr id i k j,v,hr=>by
  simp only[ren,relV]at hr⊢;obtain⟨b,c,h1,n,h2⟩:=hr;cases hi:zj id ids 0 with
  |none=>simp[relV]
  |some i'=>
   obtain⟨q,e1,e2⟩:=j7 hi;simp only[relV];exact⟨b,c,by rw[show i'=q by omega];exact hm q id e2 _ h1,n,h2⟩
 |.sub id i k j,v,hr=>by
  simp only[ren,relV]at hr⊢;obtain⟨hd,h1,h2⟩:=hr;cases hi:zj id ids 0 with
  |none=>simp[relV]
  |some i'=>
   obtain⟨q,e1,e2⟩:=j7 hi;simp only[relV];exact⟨hd,by rw[show i'=q by omega];exact hm q id e2 _ h1,h2⟩
 |.win id k off n,v,hr=>by
  simp only[ren,relV]at hr⊢;obtain⟨hd,h1,h2⟩:=hr;cases hi:zj id ids 0 with
  |none=>simp[relV]
  |some i=>
   obtain⟨q,e1,e2⟩:=j7 hi;simp only[relV];exact⟨hd,by rw[show i=q by omega];exact hm q id e2 _ h1,h2⟩
theorem kZ(h:MonoW w O w O')(hm:∀q id,ids[q]? = some id-> ∀hd,m id=some hd->m' q=some hd):∀(cs:Xj)(vs:Xh),ja w O m cs vs->ja w O' m' (y9 ids cs) vs
 | [],vs,hr=>by simpa[y9,ja]using hr
 |c::cs,vs,hr=>by
  simp only[y9,ja]at hr⊢;obtain⟨v,r,h1,h2,h3⟩:=hr;exact⟨v,r,h1,jcx h hm c v h2,kZ h hm cs r h3⟩
end
def kD(os:List Abs.Obj):Prop:=∀o∈os,∃k,o = .row k []
mutual
theorem jbD:∀(v:V)(n:Nat),kD (kJ v n).2
 |.top,_=>by intro o h;simp[kJ]at h
 |.nil k,_=>by intro o h;simp[kJ]at h;exact⟨k,h⟩
 |.d _,_=>by intro o h;simp[kJ]at h
 |.agg cs,n=>by simp only[kJ];exact kM cs n
 |.tup cs,n=>by simp only[kJ];exact kM cs n
 |.fn _ cs,n=>by simp only[kJ];exact kM cs n
 |.ptr _ _,_=>by intro o h;simp[kJ]at h
 |.row _,_=>by intro o h;simp[kJ]at h
 |.rptr _ _ _ _,_=>by intro o h;simp[kJ]at h
 |.win _ _ _ _,_=>by intro o h;simp[kJ]at h
 |.ub _ _,_=>by intro o h;simp[kJ]at h
 |.sub _ _ _ _,_=>by intro o h;simp[kJ]at h
theorem kM:∀(cs:Xj)(n:Nat),kD (zg cs n).2
 | [],_=>by intro o h;simp[zg]at h
 |c::cs,n=>by
  simp only[zg];intro o h;rcases List.mem_append.mp h with h|h
  .exact jbD c n o h
  .exact kM cs _ o h
end
mutual
theorem jbE:∀(v:V)(n:Nat)(u:Value),(∀i,n<=i->i<n+(kJ v n).2.length->m i=some .none)->relV w O m v u->relV w O m (kJ v n).1 u
 |.top,_,_,_,_=>by simp[kJ,relV]
 |.nil k,n,u,hn,hr=>by
  simp only[kJ,relV,jfC,jfJ]at hn hr⊢;exact⟨.none,hn n (jdB _) (by omega),hr⟩
 |.d a,_,_,_,hr=>by simpa[kJ]using hr
 |.agg cs,n,u,hn,hr=>by
  simp only[kJ,relV]at hn hr⊢;obtain⟨vs,h1,h2⟩:=hr;exact⟨vs,h1,kN cs n vs hn h2⟩
 |.tup cs,n,u,hn,hr=>by
  simp only[kJ,relV]at hn hr⊢;obtain⟨vs,h1,h2⟩:=hr;exact⟨vs,h1,kN cs n vs hn h2⟩
 |.fn f cs,n,u,hn,hr=>by
  simp only[kJ,relV]at hn hr⊢;obtain⟨vs,h1,h2⟩:=hr;exact⟨vs,h1,kN cs n vs hn h2⟩
 |.ptr _ _,_,_,_,hr=>by simpa[kJ]using hr
 |.row _,_,_,_,hr=>by simpa[kJ]using hr
 |.rptr _ _ _ _,_,_,_,hr=>by simpa[kJ]using hr
 |.win _ _ _ _,_,_,_,hr=>by simpa[kJ]using hr
 |.ub _ _,_,_,_,hr=>by simpa[kJ]using hr
 |.sub _ _ _ _,_,_,_,hr=>by simpa[kJ]using hr
theorem kN:∀(cs:Xj)(n:Nat)(us:Xh),(∀i,n<=i->i<n+(zg cs n).2.length->m i=some .none)->ja w O m cs us->ja w O m (zg cs n).1 us
 | [],_,us,_,hr=>by simpa[zg]using hr
 |c::cs,n,us,hn,hr=>by
  simp only[zg,ja,jf7]at hn hr⊢;obtain⟨v,r,h1,h2,h3⟩:=hr;exact⟨v,r,h1,jbE c n v (λi h4 h5=>hn i h4 (by omega)) h2,kN cs _ r (λi h4 h5=>hn i (by omega) (by omega)) h3⟩
end
theorem KO:∀(l:List Abs.Obj)(n:Nat),kD (kq l n).2/\(kq l n).1.length=l.length/\
  ((∀i,n<=i->i<n+(kq l n).2.length->m i=some .none)-> ∀(i:Nat)(o':Abs.Obj),(kq l n).1[i]? = some o'-> ∃o,l[i]? = some o/\(o'=o\/ ∃cs cs',o=Abs.Obj.box cs/\o'=Abs.Obj.box cs'/\ ∀us,ja w O m cs us->ja w O m cs' us))
 | [],n=>⟨by intro o h;simp[kq]at h,rfl,by simp[kq]⟩
 |o::l,n=>by
  have gen:∀o:Abs.Obj,kq (o::l) n=(o::(kq l n).1,(kq l n).2)->kD (kq (o::l) n).2/\(kq (o::l) n).1.length=(o::l).length/\
    ((∀i,n<=i->i<n+(kq (o::l) n).2.length->m i=some .none)-> ∀(i:Nat)(o':Abs.Obj),(kq (o::l) n).1[i]? = some o'-> ∃o'',(o::l)[i]? = some o''/\(o'=o''\/ ∃cs cs',o''=Abs.Obj.box cs/\o'=Abs.Obj.box cs'/\ ∀us,ja w O m cs us->ja w O m cs' us)):=by
   intro o e;obtain⟨h1,h2,h3⟩:=KO l n;rw[e];refine⟨h1,by simp[h2],λhn i o' hi=>?_⟩;cases i with
   |zero=>simp at hi;subst hi;exact⟨_,rfl,Or.inl rfl⟩
   |succ i=>simpa using h3 hn i o' (by simpa using hi)
  cases o with
  |box cs=>
   obtain⟨h1,h2,h3⟩:=KO l (n+(zg cs n).2.length);simp only[kq,jf7];refine⟨?_,by simp[h2],λhn i o' hi=>?_⟩
   .intro o h;rcases List.mem_append.mp h with h|h
    .exact kM cs n o h
    .exact h1 o h
   .cases i with
    |zero=>
     simp at hi;subst hi;exact⟨_,rfl,Or.inr ⟨cs,_,rfl,rfl,λus hus=>kN cs n us (λi h4 h5=>hn i h4 (by omega)) hus⟩⟩
    |succ i=>
     simpa using h3 (λi h4 h5=>hn i (by omega) (by omega)) i o' (by simpa using hi)
  |dead=>exact gen _ rfl
  |gone=>exact gen _ rfl
  |row k xs=>exact gen _ rfl
  |fro k xs=>exact gen _ rfl
  |tre f k xs=>exact gen _ rfl
  |map xs=>exact gen _ rfl
end
theorem KU{ids:Xf}{o:Abs.Obj} :(Ym ids o).alive=o.alive:=by cases o<;>rfl
def jp(objs:List Abs.Obj):jb:=λi=>objs.getD i .dead
theorem jiY{objs:List Abs.Obj}{i:Nat}{o:Abs.Obj}(h:objs[i]? = some o):jp objs i=o:=by
 simp[jp,jcQ,h]
theorem zX{objs:List Abs.Obj}{i:Nat}(h:objs.length<=i):jp objs i = .dead:=by
 simp[jp,jcQ,jdS h]
theorem kD.get{os:List Abs.Obj}(h:kD os){i:Nat}{o:Abs.Obj}(hi:os[i]? = some o):∃k,o = .row k []:=h o (jec hi)
theorem kD.append{a b:List Abs.Obj}(h:kD a)(k:kD b):kD (a++b):=λo ho=>(List.mem_append.mp ho).elim (h o) (k o)
theorem Y7(w:World)(O:Nat->Prop)(m:jq){ids:Xf}{st:jb}{os1 ob os3:List Abs.Obj}(n1:kD os1)(e3:kq (ids.map λid=>Ym ids (st id)) (ids.length+os1.length)=(ob,os3))
  (hm:∀q,ids.length<=q->q<ids.length+os1.length+os3.length->m q=some .none) :
  ob.length=ids.length/\
  (∀i id,ids[i]? = some id->jp (ob++os1++os3) i=Ym ids (st id)\/ ∃cs cs',st id = .box cs/\jp (ob++os1++os3) i = .box cs'/\ ∀us,ja w O m (y9 ids cs) us->ja w O m cs' us)/\
  (∀i,ids.length<=i->i<ids.length+os1.length+os3.length-> ∃k,jp (ob++os1++os3) i = .row k [])/\(∀i,ids.length+os1.length+os3.length<=i->jp (ob++os1++os3) i = .dead):=by
 obtain⟨n3,l3,p3⟩:=KO (w:=w) (O:=O) (m:=m) (ids.map λid=>Ym ids (st id)) (ids.length+os1.length);rw[e3]at n3 l3 p3;simp only[List.length_map]at l3;have p3:=p3 λi h1 h2=>hm i (by omega) h2;refine⟨l3,?_,?_,?_⟩
 .intro i id hi;have hlt:=(List.getElem?_eq_some_iff.mp hi).1;have hob:ob[i]? = some ob[i]:=jam (by omega);have hst:jp (ob++os1++os3) i=ob[i]:=jiY (by rw[jet,jep (by omega),hob]);obtain⟨o,h3,h4⟩:=p3 i _ hob;rw[jel,hi]at h3;cases h3;rcases h4 with h4|⟨cs,cs',h4,h5,h6⟩
  .exact Or.inl (by rw[hst,h4])
  .right;dsimp only at h4;cases ho:st id with
   |box cs0=>
    rw[ho]at h4;cases h4;exact⟨cs0,cs',rfl,by rw[hst,h5],h6⟩
   |dead=>rw[ho]at h4;cases h4
   |gone=>rw[ho]at h4;cases h4
   |row k xs=>rw[ho]at h4;cases h4
   |fro k xs=>rw[ho]at h4;cases h4
   |tre f k xs=>rw[ho]at h4;cases h4
   |map xs=>rw[ho]at h4;cases h4
 .intro i h1 h2;have hlt:i-ob.length<(os1++os3).length:=by simp;omega
  obtain⟨k,hk⟩:=(n1.append n3).get (jam hlt);refine⟨k,?_⟩;rw[<-hk];exact jiY (by rw[jet,jeU (by omega),jam hlt])
 .intro i h1;exact zX (by simp;omega)
theorem Sto.pick{X:Ctx}{w:World}{O0 O0':Nat->Prop}{m m':jq}{st st':jb}(hs:Sto X w O0 m st)(hN:∀b,X.N b->O0' b)(hO:∀b,O0' b->Ow O0 m st b)
  (src:Nat->Option Nat)
  (h:∀i,(st' i = .dead/\m' i=none)\/st' i = .gone\/((∃k,st' i = .row k []\/st' i = .tre true k [])/\m' i=some .none)\/
   (∃id,src i=some id/\m' i=m id/\(((∃k xs,st' i = .row k xs\/st' i = .fro k xs\/(∃f,st' i = .tre f k xs)\/st' i = .map xs)/\st id=st' i)\/ ∃cs cs',st id = .box cs/\st' i = .box cs'/\((∀b,Ow O0' m' st' b->Ow O0 m st b)->(∀b,Mz m' st' b-> ∃i id hd,src i=some id/\(st id).alive=true/\m id=some hd/\b∈hd.blocks)-> ∀us,ja w (Ow O0 m st) m cs us->ja w (Ow O0' m' st') m' cs' us))))
  (hinj:∀i i' id,src i=some id->src i'=some id->(st' i).alive=true->(st' i').alive=true->i=i')
  (hdis:∀i id hd b,src i=some id->(st' i).alive=true->m id=some hd->b∈hd.blocks-> ¬O0' b) :
  Sto X w O0' m' st'/\(∀b,Mz m' st' b->Mz m st b):=by
 have blk:∀i hd b,(st' i).alive=true->m' i=some hd->b∈hd.blocks-> ∃id,src i=some id/\(st id).alive=true/\m id=some hd:=by
  intro i hd b ha hm hb;rcases h i with⟨h1,_⟩|h1|⟨_,h2⟩|⟨id,h1,h2,h3⟩
  .rw [h1]at ha;cases ha
  .rw [h1]at ha;cases ha
  .rw [h2]at hm;cases hm;simp[Hd.blocks]at hb
  .refine ⟨id,h1,?_,by rw[<-h2];exact hm⟩
   rcases h3 with⟨_,h4⟩|⟨cs,cs',h4,_⟩
   .rw [h4];exact ha
   .rw [h4];rfl
 have hmz:∀b,Mz m' st' b->Mz m st b:=by
  rintro b ⟨i,hd,ha,hm,hb⟩;obtain⟨id,_,h2,h3⟩:=blk i hd b ha hm hb;exact⟨id,hd,h2,h3,hb⟩
 have hmi:∀b,Mz m' st' b-> ∃i id hd,src i=some id/\(st id).alive=true/\m id=some hd/\b∈hd.blocks:=by
  rintro b ⟨i,hd,ha,hm,hb⟩;obtain⟨id,h1,h2,h3⟩:=blk i hd b ha hm hb;exact⟨i,id,hd,h1,h2,h3,hb⟩
 have hsub:∀b,Ow O0' m' st' b->Ow O0 m st b:=λb hb=>hb.elim (hO b) λhb=>Or.inr (hmz b hb);have mono:=MonoW.sub (w:=w) hsub;refine⟨⟨hs.j,hN,?_,?_,?_,?_,?_⟩,hmz⟩
 .intro i hd;rcases h i with⟨_,h2⟩|h1|⟨⟨k,h1|h1⟩,_⟩|⟨id,h1,h2,h3⟩
  .exact h2
  .rw [h1]at hd;cases hd
  .rw [h1]at hd;cases hd
  .rw [h1]at hd;cases hd
  .rcases h3 with⟨⟨k,xs,h4|h4|⟨f,h4⟩|h4⟩,_⟩|⟨cs,cs',_,h4,_⟩<;>rw[h4]at hd<;>cases hd
 .intro b hb;rcases hO b hb with hb|⟨id,hd,ha,hm,hi⟩
  .exact hs.old b hb
  .exact (hs.blk id hd b ha hm hi).1
 .intro i hd b ha hm hi;obtain⟨id,h1,h2,h3⟩:=blk i hd b ha hm hi;exact⟨(hs.blk id hd b h2 h3 hi).1,hdis i id hd b h1 ha h3 hi⟩
 .intro i i' hd hd' b ha ha' hm hm' hi hi';obtain⟨id,g1,g2,g3⟩:=blk i hd b ha hm hi;obtain⟨id',g1',g2',g3'⟩:=blk i' hd' b ha' hm' hi';have:=hs.inj id id' hd hd' b g2 g2' g3 g3' hi hi';subst this;exact hinj i i' id g1 g1' ha ha'
 .intro i;rcases h i with⟨h1,_⟩|h1|⟨⟨k,h1|h1⟩,h2⟩|⟨id,h1,h2,h3⟩
  .rw [h1];trivial
  .rw [h1];trivial
  .rw [h1,h2];exact⟨.none,rfl,rfl⟩
  .rw [h1,h2];exact⟨.none,rfl,by simp[jf],by simp[Hd.blocks]⟩
  .rw [h2];have ho:=hs.obj id;rcases h3 with⟨h5,h4⟩|⟨cs,cs',h4,h5,h6⟩
   .rw [h4]at ho;obtain⟨k,xs,h5⟩:=h5;rcases h5 with h5|h5|⟨f,h5⟩|h5
    .rw [h5]at ho⊢;obtain⟨hd,g1,g2⟩:=ho;exact⟨hd,g1,zF mono (λ_ _ _ _=>rfl) g2⟩
    .rw [h5]at ho⊢;obtain⟨hd,g1,g0,g2⟩:=ho;exact⟨hd,g1,g0,λv hv=>js mono _ _ (g2 v hv)⟩
    .rw [h5]at ho⊢;exact ho
    .rw [h5]at ho⊢;obtain⟨hd,g1,g2⟩:=ho;exact⟨hd,g1,qt mono (λ_ _=>rfl) g2⟩
   .rw [h4]at ho;rw[h5];obtain⟨hd,g1,g2⟩:=ho;refine⟨hd,g1,?_⟩;cases hd with
    |none=>exact g2
    |tre=>exact g2.elim
    |mp=>exact g2.elim
    |blk b c n=>
     obtain⟨cc,T,k1,k2,k3⟩:=g2;exact⟨cc,T,k1,k2,h6 hsub hmi _ k3⟩
mutual
def Sh.toV(as:Xd):Sh->V
 |.d i=>.d (as.getD i .top)
 |.row o=>.row o
 |.ptr o off=>.ptr o off
 |.agg l=>.agg (Sh.toVL as l)
 |.tup l=>.tup (Sh.toVL as l)
def Sh.toVL(as:Xd):List Sh->Xj
 | []=>[]
 |s::l=>Sh.toV as s::Sh.toVL as l
end
def zf(k:Nat)(xs:Xc):Abs.Obj:=bif Nat.blt k 64 then .row k xs else bif Nat.beq k 128 then .map xs else .tre true (k-64) xs
theorem JW(k:Nat)(xs:Xc):zf k xs = .row k xs\/zf k xs = .tre true (k-64) xs\/zf k xs = .map xs:=by
 unfold zf;cases Nat.blt k 64
 .cases Nat.beq k 128
  .exact Or.inr (Or.inl rfl)
  .exact Or.inr (Or.inr rfl)
 .exact Or.inl rfl
theorem Y0(k:Nat)(xs:Xc):(zf k xs).alive=true:=by
 rcases JW k xs with h|h|h<;>rw[h]<;>rfl
def kdK(k:Nat):Nat:=bif Nat.blt k 256 then k else k % 256
def kU(a:A):Bool:=match a with|.val (.bool b)=>b|_=>false
def jbd:Xf->Option Nat
 | []=>none
 |k::ks=>bif Nat.blt k 256 then jbd ks else some (k / 256-1)
def YE(ks:Xf)(as:Xd):A:=match jbd ks with|none=>.val (.bool true)|some i=>as.getD i .top
def zo(b:Bool)(k:Nat)(xs:Xc):Abs.Obj:=bif Nat.blt k 256 then zf k xs else bif b then zf (k % 256) xs else .gone
theorem zE(b:Bool)(k:Nat)(xs:Xc):zo b k xs = .gone\/ ∃k',zo b k xs=zf k' xs/\k'=kdK k:=by
 unfold zo kdK;cases Nat.blt k 256
 .cases b
  .exact Or.inl rfl
  .exact Or.inr ⟨_,rfl,rfl⟩
 .exact Or.inr ⟨_,rfl,rfl⟩
theorem jao(b:Bool)(k:Nat)(xs:Xc):zo b k xs≠ .dead:=by
 rcases zE b k xs with h|⟨k',h,_⟩
 .rw [h];intro e;cases e
 .rw [h];intro e;have:=Y0 k' xs;rw[e]at this;cases this
def JC(b:Bool)(ks:Xf)(rs:List Xc)(j:Nat):Abs.Obj:=zo b (ks.getD j 0) (rs.getD j [])
def OW.toO(b:Bool)(ks:Xf)(as:Xd)(rs:List Xc):OW->Abs.Obj
 |.cons=>.gone
 |.io j=>JC b ks rs j
 |.box l=>.box (Sh.toVL as l)
def SigA.objsB(b:Bool)(sg:SigA)(as:Xd)(rs:List Xc):List Abs.Obj:=sg.ws.map (OW.toO b sg.ks as rs)++sg.nw.map (JC b sg.ks rs)
def SigA.objs(sg:SigA)(as:Xd)(rs:List Xc):List Abs.Obj:=sg.objsB (kU (YE sg.ks as)) as rs
def hD(o:Out)(i:Nat):Xl:=o.2[i]?
def hR(k:Nat)(o:Out)(i:Nat):Option Xc:=match o.2[i]? with|some (.sl k' xs)=>if k'=k then some xs else none|_=>none
structure HolesOk(sg:SigA)(o:Out)(as:Xd)(rs:List Xc):Prop where
 la:as.length=sg.nd
 da:∀i a,as[i]? = some a->hD o i=some a
 lr:rs.length=sg.ks.length
 dr:∀j r k,rs[j]? = some r->sg.ks[j]? = some k->hR k o (sg.nd+j)=some r
def bkI(l:Xf)(i:Nat)(f:Nat->V):V:=match l[i]? with|some j=>f j|none=>.top
mutual
def bk(l:Xf):V->V
 |.ptr id off=>bkI l id λj=>.ptr j off
 |.row id=>bkI l id .row
 |.rptr _ _ _ _=>.top
 |.win _ _ _ _=>.top
 |.sub _ _ _ _=>.top
 |.agg cs=>.agg (bkL l cs)
 |.tup cs=>.tup (bkL l cs)
 |.fn f cs=>.fn f (bkL l cs)
 |v=>v
def bkL(l:Xf):Xj->Xj
 | []=>[]
 |c::cs=>bk l c::bkL l cs
end
def bkO(l:Xf):Abs.Obj->Abs.Obj
 |.box cs=>.box (bkL l cs)
 |o=>o
section
variable{w:World}{O O':Nat->Prop}{m m':jq}{l:Xf}
mutual
theorem Km(h:MonoW w O w O')(hm:∀q id,l[q]? = some id-> ∀hd,m q=some hd->m' id=some hd):∀(v:V)(u:Value),relV w O m v u->relV w O' m' (bk l v) u
 |.top,_,_=>by simp[bk,relV]
 |.nil _,v,hr=>by simpa[bk,relV]using hr
 |.d a,v,hr=>by simp only[bk,relV]at hr⊢;exact js h a v hr
 |.agg cs,v,hr=>by
  simp only[bk,relV]at hr⊢;obtain⟨vs,h1,h2⟩:=hr;exact⟨vs,h1,qI h hm cs vs h2⟩
 |.tup cs,v,hr=>by
  simp only[bk,relV]at hr⊢;obtain⟨vs,h1,h2⟩:=hr;exact⟨vs,h1,qI h hm cs vs h2⟩
 |.fn f cs,v,hr=>by
  simp only[bk,relV]at hr⊢;obtain⟨vs,h1,h2⟩:=hr;exact⟨vs,h1,qI h hm cs vs h2⟩
 |.ptr id off,v,hr=>by
  simp only[bk,bkI,relV]at hr⊢;obtain⟨b,c,n,h1,h2⟩:=hr;cases hi:l[id]? with
  |none=>simp[relV]
  |some j=>simp only[relV];exact⟨b,c,n,hm _ _ hi _ h1,h2⟩
 |.row id,v,hr=>by
  simp only[bk,bkI,relV]at hr⊢;obtain⟨hd,h1,h2⟩:=hr;cases hi:l[id]? with
  |none=>simp[relV]
  |some j=>simp only[relV];exact⟨hd,hm _ _ hi _ h1,h2⟩
 |.rptr _ _ _ _,v,hr=>by simp[bk,relV]
 |.win _ _ _ _,v,hr=>by simp[bk,relV]
 |.sub _ _ _ _,v,hr=>by simp[bk,relV]
 |.ub _ _,v,hr=>by simpa[bk,relV]using hr
theorem qI(h:MonoW w O w O')(hm:∀q id,l[q]? = some id-> ∀hd,m q=some hd->m' id=some hd):∀(cs:Xj)(vs:Xh),ja w O m cs vs->ja w O' m' (bkL l cs) vs
 | [],vs,hr=>by simpa[bkL,ja]using hr
 |c::cs,vs,hr=>by
  simp only[bkL,ja]at hr⊢;obtain⟨v,r,h1,h2,h3⟩:=hr;exact⟨v,r,h1,Km h hm c v h2,qI h hm cs r h3⟩
end
end
theorem zW{l:Xf}{o:Abs.Obj} :(bkO l o).alive=o.alive:=by cases o<;>rfl
def SOk(X:Ctx)(P:Program)(f:FuncId)(args:Xj)(objs:List Abs.Obj)(sg:SigA)(out:Out):Prop:=Enters P f/\
 ∀(w:World)(O:Nat->Prop)(m:jq)(vs:Xh),Sto X w O m (jp objs)->(∀i,i<objs.length-> ∃h,m i=some h/\h.fixed=true)->ja w (Ow O m (jp objs)) m args vs->
  Calls P f vs.toArray w λe w'=>∃v,e = .returned v/\ ∃as rs m',HolesOk sg out as rs/\(w'.os=w.os/\w'.tape=w.tape/\Quiet w w'/\w.heap.size<=w'.heap.size)/\
   (∀b,b<w.heap.size-> ¬Mz m (jp objs) b->w'.heap[b]? = w.heap[b]?)/\(∀b,Mz m' (jp (sg.objs as rs)) b->Mz m (jp objs) b\/w.heap.size<=b)/\(∀i,i<objs.length->m' i=m i)/\
   Sto X w' O m' (jp (sg.objs as rs))/\relV w' (Ow O m' (jp (sg.objs as rs))) m' (sg.r.toV as) v
def StM(X:Ctx)(C:Cfg)(M:Node->Xe):Prop:=∀f args objs sgs sg out,C.sig f=some sgs->jjG objs.length sgs=some sg->M (.callv f args objs)=some out->SOk X C.P f args objs sg out
def KN(keep:Bool)(cs:Xj)(n:Nat):Xj×List Abs.Obj:=if keep then(cs,[])else zg cs n
theorem jaG(keep:Bool)(cs:Xj)(n:Nat):kD (KN keep cs n).2:=by
 unfold KN;split
 .intro o h;simp at h
 .exact kM cs n
theorem jaH{w:World}{O:Nat->Prop}{m:jq}(keep:Bool)(cs:Xj)(n:Nat)(us:Xh)(h:∀i,n<=i->i<n+(KN keep cs n).2.length->m i=some .none)(hr:ja w O m cs us):ja w O m (KN keep cs n).1 us:=by
 unfold KN at h⊢;split at h
 .rename_i hk;simp only[hk];exact hr
 .rename_i hk;simp only[hk];exact kN cs n us h hr
def yD(keep:Bool)(st:jb)(vs:Xj):Option (Xf×Xj×List Abs.Obj×Nat):=
 let ids:=reach st 400 (Jd vs) []
 if Jw ids then
  match KN keep (y9 ids vs) ids.length with
  |(vs2,os1)=>(match kq (ids.map λid=>Ym ids (st id)) (ids.length+os1.length)with
   |(ob,os3)=>some (ids,vs2,ob++os1++os3,os1.length+os3.length))
 else none
def KA:Abs.Obj->Bool
 |.dead=>false
 |.gone=>false
 |.tre f _ _=>f
 |_=>true
def Hb(ids:Xf)(m:jq)(st:jb)(b:Nat):Prop:=∃id hd,id∈ids/\(st id).alive=true/\m id=some hd/\b∈hd.blocks
def qp(ids:Xf)(p:Nat)(m:jq):jq:=λq=>if q<ids.length then(ids[q]?).bind m else if q<ids.length+p then some .none else none
theorem Yb{ids:Xf}{p:Nat}{m:jq}{q id:Nat}(h:ids[q]? = some id):qp ids p m q=m id:=by
 have:=(List.getElem?_eq_some_iff.mp h).1;unfold qp;rw[jbZ this,h];rfl
theorem jcw{X:Ctx}{w:World}{O0:Nat->Prop}{m:jq}{st0 st:jb}{vs:Xj}{ids:Xf}{vs2:Xj}{objs:List Abs.Obj}{p:Nat}{keep:Bool}(h:yD keep st0 vs=some (ids,vs2,objs,p))(hlive:objs.all KA=true)
  (hs:Sto X w O0 m st) (hag:∀id∈ids,st id=st0 id) {us:Xh} (hr:ja w (Ow O0 m st) m vs us) :
  ids.Nodup/\objs.length=ids.length+p/\(∀i,i<objs.length-> ∃h,qp ids p m i=some h/\h.fixed=true)/\(∀id∈ids,∃h,m id=some h)/\(∀b,Mz (qp ids p m) (jp objs) b↔Hb ids m st b)/\
   Sto X w (λb=>Ow O0 m st b/\ ¬Hb ids m st b) (qp ids p m) (jp objs)/\ja w (Ow (λb=>Ow O0 m st b/\ ¬Hb ids m st b) (qp ids p m) (jp objs)) (qp ids p m) vs2 us:=by
 unfold yD at h;dsimp only at h;split at h;rotate_left
 .cases h
 rename_i hnd;generalize reach st0 400 (Jd vs) []=ids' at h hnd;have hnd:=yX hnd;generalize e1:KN keep (y9 ids' vs) ids'.length=q1 at h;obtain⟨vs2',os1⟩:=q1;dsimp only at h;generalize e3:kq (ids'.map λid=>Ym ids' (st0 id)) (ids'.length+os1.length)=q3 at h;obtain⟨ob,os3⟩:=q3;simp only[jb4,jem]at h;obtain⟨k1,k2,k3,k4⟩:=h;have k1:=k1.symm;subst k1;subst k2 k3 k4;have n1:kD os1:=by have:=jaG keep (y9 ids vs) ids.length;rw[e1]at this;exact this
 generalize hmc:qp ids (os1.length+os3.length) m=mc;have m1:∀q id,ids[q]? = some id->mc q=m id:=λq id hq=>by rw[<-hmc];exact Yb hq
 have m2:∀q,ids.length<=q->q<ids.length+os1.length+os3.length->mc q=some .none:=λq h1 h2=>by
  rw[<-hmc];simp only[qp];rw[ja0 (by omega),jbZ (by omega)]
 have m3:∀q,ids.length+os1.length+os3.length<=q->mc q=none:=λq h1=>by
  rw[<-hmc];simp only[qp];rw[ja0 (by omega),ja0 (by omega)]
 generalize hst':jp (ob++os1++os3)=st';generalize hO':(λb=>Ow O0 m st b/\ ¬Hb ids m st b)=O0';obtain⟨l3,t1,t2,t3⟩:=Y7 w (Ow O0' mc st') mc n1 e3 m2;rw[hst']at t1 t2 t3;have hlen:(ob++os1++os3).length=ids.length+(os1.length+os3.length):=by simp;omega
 have hal:∀i,i<ids.length+os1.length+os3.length->KA (st' i)=true:=λi hi=>by
  rw[<-hst'];have:(ob++os1++os3)[i]? = some (ob++os1++os3)[i]:=jam (by omega);rw[jiY this];exact List.all_eq_true.mp hlive _ (jfL _)
 have hst0:∀i id,ids[i]? = some id->KA (st id)=true/\(st' i).alive=(st id).alive:=λi id hi=>by
  have hl:=hal i (by have:=(List.getElem?_eq_some_iff.mp hi).1;omega)
  rw[hag id (jec hi)];rcases t1 i id hi with h1|⟨cs,cs',h1,h2,_⟩
  .rw [h1]at hl⊢;refine⟨?_,KU⟩;cases ho:st0 id<;>rw[ho]at hl<;>simp[Ym,KA]at hl⊢ <;>exact hl
  .rw [h1,h2];exact⟨rfl,rfl⟩
 have hmid:∀id∈ids,∃h,m id=some h:=λid hid=>by
  obtain⟨i,hi⟩:=List.mem_iff_getElem?.mp hid;have hl:=(hst0 i id hi).1;have ho:=hs.obj id;cases hc:st id<;>rw[hc]at hl ho
  .cases hl
  .cases hl
  all_goals (obtain⟨hd,h1,_⟩:=ho;exact⟨hd,h1⟩)
 have hmz:∀b,Mz mc st' b↔Hb ids m st b:=λb=>by
  constructor
  .rintro ⟨i,hd,ha,hm,hb⟩;by_cases hi:i<ids.length
   .have hg:ids[i]? = some ids[i]:=jam hi;exact⟨ids[i],hd,jfL _,by rw[<-(hst0 i _ hg).2];exact ha,by rw[<-m1 i _ hg];exact hm,hb⟩
   .by_cases hi':i<ids.length+os1.length+os3.length
    .rw [m2 i (by omega) hi']at hm;cases hm;simp[Hd.blocks]at hb
    .rw [m3 i (by omega)]at hm;cases hm
  .rintro ⟨id,hd,hid,ha,hm,hb⟩;obtain⟨i,hi⟩:=List.mem_iff_getElem?.mp hid;exact⟨i,hd,by rw[(hst0 i id hi).2];exact ha,by rw[m1 i id hi];exact hm,hb⟩
 have hpick:=Sto.pick (X:=X) (w:=w) (O0':=O0') (m':=mc) (st':=st') hs (λb hb=>by
   rw[<-hO'];exact⟨Or.inl (hs.jn b hb),λ⟨id,hd,_,ha,hm,hi⟩=>(hs.blk id hd b ha hm hi).2 (hs.jn b hb)⟩) (λb hb=>by rw[<-hO']at hb;exact hb.1) (λi=>ids[i]?) (λi=>?_)
   (λi i' id h1 h2 _ _=>(List.getElem?_inj (List.getElem?_eq_some_iff.mp h1).1 hnd).mp (h1.trans h2.symm))
   (λi id hd b h1 h2 h3 h4 hb=>by
    rw[<-hO']at hb;exact hb.2 ⟨id,hd,jec h1,by rw[<-(hst0 i id h1).2];exact h2,h3,h4⟩)
 rotate_left
 .by_cases hi:i<ids.length
  .have hg:ids[i]? = some ids[i]:=jam hi;have hag':=hag ids[i] (jfL _);have hl:=(hst0 i _ hg).1;right;right;right;refine⟨ids[i],hg,m1 i _ hg,?_⟩;rcases t1 i _ hg with h1|⟨cs,cs',h1,h2,h3⟩
   .cases hc:st ids[i]with
    |dead=>rw[hc]at hl;cases hl
    |gone=>rw[hc]at hl;cases hl
    |box cs=>
     rw[<-hag',hc]at h1;refine Or.inr ⟨cs,_,rfl,h1,λhsub _ us hus=>kZ (MonoW.sub hsub) (λq id hq hd h=>by rw[m1 q id hq];exact h) _ _ hus⟩
    |row k xs=>rw[<-hag',hc]at h1;exact Or.inl ⟨⟨k,xs,Or.inl h1⟩,h1.symm⟩
    |fro k xs=>rw[<-hag',hc]at h1;exact Or.inl ⟨⟨k,xs,Or.inr (Or.inl h1)⟩,h1.symm⟩
    |tre f k xs=>rw[<-hag',hc]at h1;exact Or.inl ⟨⟨k,xs,Or.inr (Or.inr (Or.inl ⟨f,h1⟩))⟩,h1.symm⟩
    |map xs=>rw[<-hag',hc]at h1;exact Or.inl ⟨⟨0,xs,Or.inr (Or.inr (Or.inr h1))⟩,h1.symm⟩
   .refine Or.inr ⟨cs,cs',by rw[hag',h1],h2,λhsub _ us hus=>h3 us (kZ (MonoW.sub hsub) (λq id hq hd h=>by rw[m1 q id hq];exact h) _ _ hus)⟩
  .by_cases hi':i<ids.length+os1.length+os3.length
   .obtain ⟨k,hk⟩:=t2 i (by omega) hi';exact Or.inr (Or.inr (Or.inl ⟨⟨k,Or.inl hk⟩,m2 i (by omega) hi'⟩))
   .exact Or.inl ⟨t3 i (by omega),m3 i (by omega)⟩
 refine⟨hnd,hlen,?_,hmid,hmz,hpick.1,?_⟩
 .intro i hi;by_cases hi':i<ids.length
  .have hg:ids[i]? = some ids[i]:=jam hi';rw[m1 i _ hg];obtain⟨h,hh⟩:=hmid _ (jfL hi');have hl:=(hst0 i _ hg).1;refine⟨h,hh,hs.fixed hh (λk xs e=>?_) λe=>?_⟩
   .rw [e]at hl;cases hl
   .rw [e]at hl;cases hl
  .exact ⟨.none,m2 i (by omega) (by omega),rfl⟩
 .have hsub:∀b,Ow O0' mc st' b->Ow O0 m st b:=λb hb=>hb.elim (λh=>by rw[<-hO']at h;exact h.1) λhb=>Or.inr (hpick.2 b hb)
  have g:=jaH keep _ ids.length _ (λi h1 h2=>m2 i h1 (by rw[e1]at h2;dsimp only at h2;omega)) (kZ (MonoW.sub hsub) (λq id hq hd h=>by rw[m1 q id hq];exact h) _ _ hr)
  rw[e1]at g;exact g
end
noncomputable section
def yk:Nat->Nat->Xf
 |_,0=>[]
 |n,k+1=>n::yk (n+1) k
def qS(st:jb):Xf->Xm
 | []=>[]
 |id::l=>.obj id (st id)::qS st l
def yx:Xf->Xm
 | []=>[]
 |id::l=>.fresh id::yx l
def qb:Xf->List Abs.Obj->Xn
 |id::l,o::os=>.obj id o::qb l os
 |_,_=>[]
theorem jaw:∀{k n i:Nat},i∈yk n k↔n<=i/\i<n+k
 |0,n,i=>by simp only[yk,List.not_mem_nil,jfg,false_iff];omega
 |k+1,n,i=>by simp only[yk,ja1,jaw];omega
theorem qB:∀(k n:Nat),(yk n k).length=k
 |0,_=>rfl
 |k+1,n=>by simp[yk,qB k]
theorem JI:∀(k n:Nat),(yk n k).Nodup
 |0,_=>List.nodup_nil
 |k+1,n=>List.nodup_cons.mpr ⟨λh=>by have:=jaw.mp h;omega,JI k _⟩
theorem Jv{st0 st:jb} :∀{l:Xf},(∀r∈qS st0 l,jC st r)-> ∀id∈l,st id=st0 id
 | [],_,_,h=>by cases h
 |i::l,hg,id,h=>by
  rcases List.mem_cons.mp h with rfl|h
  .exact hg (.obj id (st0 id)) (by simp[qS])
  .exact Jv (l:=l) (λr hr=>hg r (by simp[qS,hr])) id h
theorem qm{st:jb} :∀{l:Xf},∀r∈qS st l,jC st r
 | [],_,h=>by cases h
 |i::l,r,h=>by
  simp only[qS,ja1]at h;rcases h with rfl|h
  .rfl
  .exact qm r h
theorem yT{st:jb} :∀{l:Xf},(∀r∈yx l,jC st r)-> ∀id∈l,st id = .dead
 | [],_,_,h=>by cases h
 |i::l,hg,id,h=>by
  rcases List.mem_cons.mp h with rfl|h
  .exact hg (.fresh id) (by simp[yx])
  .exact yT (l:=l) (λr hr=>hg r (by simp[yx,hr])) id h
theorem qQ{st:jb} :∀{l:Xf},(∀id∈l,st id = .dead)-> ∀r∈yx l,jC st r
 | [],_,_,h=>by cases h
 |i::l,hg,r,h=>by
  simp only[yx,ja1]at h;rcases h with rfl|h
  .exact hg i (by simp)
  .exact qQ (λid hid=>hg id (by simp[hid])) r h
theorem Jq:∀(tot:Xf)(os:List Abs.Obj)(st:jb),tot.Nodup->tot.length=os.length->
  (∀(q id:Nat)(o:Abs.Obj),tot[q]? = some id->os[q]? = some o->ji st (qb tot os) id=o)/\(∀id,id ∉ tot->ji st (qb tot os) id=st id)
 | [],_,st,_,_=>⟨λq id o h=>by simp at h,λ_ _=>rfl⟩
 |i::tot,[],st,_,h=>by cases h
 |i::tot,o::os,st,hn,hl=>by
  obtain⟨hn1,hn2⟩:=List.nodup_cons.mp hn;obtain⟨h1,h2⟩:=Jq tot os (upd st i o) hn2 (by simpa using hl);have e:ji st (qb (i::tot) (o::os))=ji (upd st i o) (qb tot os):=rfl;rw[e];refine⟨λq id o' hq ho=>?_,λid hid=>?_⟩
  .cases q with
   |zero=>
    simp at hq ho;subst hq ho;rw[h2 i hn1,jc]
   |succ q=>exact h1 q id o' (by simpa using hq) (by simpa using ho)
  .rw [h2 id (λh=>hid (by simp[h])),upd_ne _ _ (λh=>hid (by simp[h]))]
theorem YN{x:Nat}{l:Xf}(hn:l.Nodup){q:Nat}(h:l[q]? = some x):zj x l 0=some q:=by
 cases hi:zj x l 0 with
 |none=>
  exfalso;have:∀(l:Xf)(i:Nat),zj x l i=none->x ∉ l:=by
   intro l;induction l with
   |nil=>intro i _ h;cases h
   |cons y ys ih=>
    intro i hi hm;simp only[zj]at hi;split at hi
    .cases hi
    .rename_i hb;rcases List.mem_cons.mp hm with rfl|hm
     .simp at hb
     .exact ih _ hi hm
  exact this l 0 hi (jec h)
 |some j=>
  obtain⟨q',e,h'⟩:=j7 hi;have:=(List.getElem?_inj (List.getElem?_eq_some_iff.mp h').1 hn).mp (h'.trans h.symm);congr 1;omega
theorem YO{x:Nat}{l:Xf}(h:x ∉ l):zj x l 0=none:=by
 cases hi:zj x l 0 with
 |none=>rfl
 |some j=>
  obtain⟨q,_,h'⟩:=j7 hi;exact absurd (jec h') h
theorem HolesOk.eq{sg:SigA}{o:Out}{as as':Xd}{rs rs':List Xc}(h:HolesOk sg o as rs)(h':HolesOk sg o as' rs'):as'=as/\rs'=rs:=by
 have la:=h.la;have la':=h'.la;have lr:=h.lr;have lr':=h'.lr;constructor
 .refine je9 λi=>?_;by_cases hi:i<sg.nd
  .have e1:as[i]? = some as[i]:=jam (by omega);have e2:as'[i]? = some as'[i]:=jam (by omega);have:=(h.da i _ e1).symm.trans (h'.da i _ e2);rw[e1,e2];exact this.symm
  .rw [jdS (by omega),jdS (by omega)]
 .refine je9 λi=>?_;by_cases hi:i<sg.ks.length
  .have hi1:i<rs.length:=by omega
   have hi2:i<rs'.length:=by omega
   have e1:rs[i]? = some rs[i]:=jam hi1;have e2:rs'[i]? = some rs'[i]:=jam hi2;have e3:sg.ks[i]? = some sg.ks[i]:=jam hi;have:=(h.dr i _ _ e1 e3).symm.trans (h'.dr i _ _ e2 e3);rw[e1,e2];exact this.symm
  .rw [jdS (by omega),jdS (by omega)]
theorem Yg{sg:SigA}{as:Xd}{rs:List Xc}{q:Nat}{o:Abs.Obj}(h:(sg.objs as rs)[q]? = some o):o≠ .dead:=by
 have:=jec h;simp only[SigA.objs,SigA.objsB,jeO,jfx]at this;rcases this with⟨x,_,rfl⟩|⟨j,_,rfl⟩
 .cases x with
  |cons=>intro h;cases h
  |io j=>exact jao _ _ _
  |box l=>intro h;cases h
 .exact jao _ _ _
theorem jl.stcall{keep:Bool}{P:Program}{X:Ctx}{o:Oper}{ρ:Operand->V}{f:Operand}{xs:Array Operand}{ts:Array TypeId}(ho:o.op = .call { callee:= .value f,args:=xs,argTypes:=ts }){g:FuncId}{st0:jb}{vs vs2:Xj}{ids:Xf}{objs:List Abs.Obj}{p:Nat}{sg:SigA}{out:Out}
  (hp:SOk X P g vs2 objs sg out) (hprep:yD keep st0 vs=some (ids,vs2,objs,p)) (hlive:objs.all KA=true) (hws:sg.ws.length=objs.length)
  (hargs:∀(w:World)(O0:Nat->Prop)(m:jq)(st:jb)(ev:Operand->Value),Sto X w O0 m st->(∀x∈o.op.operands,relV w (Ow O0 m st) m (ρ x) (ev x))->
   ∃us:Xh,ev f = .func (.func g) #[] us.toArray/\ja w (Ow O0 m st) m vs (xs.toList.map ev++us))
  {as:Xd} {rs:List Xc} (hh:HolesOk sg out as rs) {nid:Nat} :
  jl P X o ρ ⟨bk (ids++yk nid (p+sg.nw.length)) (sg.r.toV as),qS st0 ids++yx (yk nid (p+sg.nw.length)),qb (ids++yk nid (p+sg.nw.length)) ((sg.objs as rs).map (bkO (ids++yk nid (p+sg.nw.length))))⟩:=by
 intro w O0 m st ev hs hg hr _hc;have hag:=Jv (st0:=st0) (st:=st) (l:=ids) λr hr=>hg r (jfv _ hr);have hfr:=yT (st:=st) (l:=yk nid (p+sg.nw.length)) λr hr=>hg r (jfZ _ hr);obtain⟨us,h1,h2⟩:=hargs w O0 m st ev hs hr;obtain⟨hnd,hlen,hsome,hmid,hmz,hsc,hrel⟩:=jcw hprep hlive hs hag h2;rw[jP ho h1 hp.1 w];have e:(xs.toList.map ev++us).toArray=(xs.toList.map ev++us).toArray:=rfl;refine⟨rfl,(hp.2 w _ _ _ hsc hsome hrel).mono ?_⟩;rintro e w' ⟨v,rfl,as',rs',mc',hh',⟨q1,q2,q3,q4⟩,hkeep,hnew,hsame,hs',hv⟩;obtain⟨rfl,rfl⟩:=hh.eq hh';dsimp only[ko];generalize hmc:qp ids p m=mc at *;generalize htot:ids++yk nid (p+sg.nw.length)=tot;generalize hobj:sg.objs as' rs'=objs' at *;have hol:objs'.length=tot.length:=by rw[<-hobj,<-htot];simp[SigA.objs,SigA.objsB,qB,hws,hlen];omega
 have htn:tot.Nodup:=by
  rw[<-htot];refine List.nodup_append.mpr ⟨hnd,JI _ _,λa ha b hb e=>?_⟩;subst e;obtain⟨h,hh⟩:=hmid a ha;rw[hs.fresh a (hfr a hb)]at hh;cases hh
 obtain⟨za,zb⟩:=Jq tot (objs'.map (bkO tot)) st htn (by simp[hol]);generalize hst2:ji st (qb tot (objs'.map (bkO tot)))=st2 at *;have za:∀q id,tot[q]? = some id->st2 id=bkO tot (jp objs' q):=λq id hq=>by
  have hlt:q<objs'.length:=by rw[hol];exact(List.getElem?_eq_some_iff.mp hq).1
  have:objs'[q]? = some objs'[q]:=jam hlt;rw[jiY this];exact za q id _ hq (by rw[jel,this];rfl)
 refine⟨v,rfl,λid=>match zj id tot 0 with|some q=>mc' q|none=>m id,?_⟩;generalize hm2:((λid=>match zj id tot 0 with|some q=>mc' q|none=>m id):jq)=m2;have ma:∀q id,tot[q]? = some id->m2 id=mc' q:=λq id hq=>by rw[<-hm2];simp only[YN htn hq]
 have mb:∀id,id ∉ tot->m2 id=m id:=λid hid=>by rw[<-hm2];simp only[YO hid]
 have tlt:∀q id,ids[q]? = some id->tot[q]? = some id:=λq id hq=>by rw[<-htot,jep (List.getElem?_eq_some_iff.mp hq).1,hq]
 have idt:∀id∈ids,id∈tot:=λid h=>by rw[<-htot];exact jfv _ h
 have mold:∀id∈ids,m2 id=m id:=λid hid=>by
  obtain⟨q,hq⟩:=List.mem_iff_getElem?.mp hid;have hlt:=(List.getElem?_eq_some_iff.mp hq).1;rw[ma q id (tlt q id hq),hsame q (by omega),<-hmc];exact Yb hq
 have tot_or:∀id∈tot,id∈ids\/(m id=none/\st id = .dead):=λid h=>by
  rw[<-htot]at h;rcases List.mem_append.mp h with h|h
  .exact Or.inl h
  .exact Or.inr ⟨hs.fresh id (hfr id h),hfr id h⟩
 have apart:∀id hd b,id ∉ tot->(st id).alive=true->m id=some hd->b∈hd.blocks-> ¬Hb ids m st b:=λid hd b hid ha hm hi=>by
  rintro⟨id',hd',h1,h2,h3,h4⟩;have:=hs.inj id id' hd hd' b ha h2 hm h3 hi h4;subst this;exact hid (idt _ h1)
 have mzlt:∀b,Mz m st b->b<w.heap.size:=λb ⟨id,hd,ha,hm,hi⟩=>(hs.blk id hd b ha hm hi).1;have hbmz:∀b,Hb ids m st b->Mz m st b:=λb ⟨id,hd,_,ha,hm,hi⟩=>⟨id,hd,ha,hm,hi⟩;have mz2:∀b,Mz m2 st2 b->Mz mc' (jp objs') b\/(Mz m st b/\ ¬Hb ids m st b):=by
  rintro b ⟨id,hd,ha,hm,hi⟩;by_cases hid:id∈tot
  .obtain ⟨q,hq⟩:=List.mem_iff_getElem?.mp hid;rw[za q id hq,zW]at ha;rw[ma q id hq]at hm;exact Or.inl ⟨q,hd,ha,hm,hi⟩
  .rw [zb id hid]at ha;rw[mb id hid]at hm;exact Or.inr ⟨⟨id,hd,ha,hm,hi⟩,apart id hd b hid ha hm hi⟩
 have hkeep:∀b,b<w.heap.size-> ¬Hb ids m st b->w'.heap[b]? = w.heap[b]? :=λb hb hn=>hkeep b hb λh=>hn ((hmz b).mp h);have hnew:∀b,Mz mc' (jp objs') b->Hb ids m st b\/w.heap.size<=b:=λb hb=>(hnew b hb).imp (hmz b).mp id;have hsub:∀b,Ow O0 m2 st2 b->Ow (λb=>Ow O0 m st b/\ ¬Hb ids m st b) mc' (jp objs') b:=by
  rintro b (hb|hb)
  .exact Or.inl ⟨Or.inl hb,λ⟨id,hd,_,ha,hm,hi⟩=>(hs.blk id hd b ha hm hi).2 hb⟩
  .rcases mz2 b hb with hb|⟨h3,h4⟩
   .exact Or.inr hb
   .exact Or.inl ⟨Or.inr h3,h4⟩
 have hchg:Chg w m st w' m2 st2:=by
  refine⟨q1,q2,q3,q4,λb hb hn=>hkeep b hb λh=>hn (hbmz b h),yp.of ?_,?_⟩
  .intro id h e;by_cases hid:id∈tot
   .rcases tot_or id hid with h1|⟨h1,_⟩
    .rw [mold id h1];exact e
    .rw [h1]at e;cases e
   .rw [mb id hid];exact e
  .intro b hb;rcases mz2 b hb with hb|hb
   .exact (hnew b hb).imp (hbmz b) (λh=>h)
   .exact Or.inl hb.1
 have hbk:∀q id,tot[q]? = some id-> ∀hd,mc' q=some hd->m2 id=some hd:=λq id hq hd h=>by rw[ma q id hq];exact h
 refine⟨hchg,hs.chg hchg ?_ ?_ ?_ ?_,Km (MonoW.sub hsub) hbk _ _ hv⟩
 .intro id hd;by_cases hid:id∈tot
  .obtain ⟨q,hq⟩:=List.mem_iff_getElem?.mp hid;rw[za q id hq]at hd;have hlt:q<objs'.length:=by rw[hol];exact(List.getElem?_eq_some_iff.mp hq).1
   have hget:objs'[q]? = some objs'[q]:=jam hlt;rw[jiY hget]at hd;have hne:=Yg (sg:=sg) (as:=as') (rs:=rs') (q:=q) (by rw[hobj];exact hget);exfalso;cases hc:objs'[q]<;>rw[hc]at hd hne<;>simp[bkO]at hd hne
  .rw [zb id hid]at hd;rw[mb id hid];exact hs.fresh id hd
 .intro id hd b ha hm hi;by_cases hid:id∈tot
  .obtain ⟨q,hq⟩:=List.mem_iff_getElem?.mp hid;rw[za q id hq,zW]at ha;rw[ma q id hq]at hm;have:=hs'.blk q hd b ha hm hi;exact Or.inr ⟨this.1,λh=>this.2 ⟨Or.inl h,λ⟨id,hd,_,ha,hm,hi⟩=>(hs.blk id hd b ha hm hi).2 h⟩⟩
  .rw [zb id hid]at ha;rw[mb id hid]at hm;exact Or.inl ⟨ha,hm⟩
 .intro id id' hd hd' b ha ha' hm hm' hi hi';by_cases hid:id∈tot
  .obtain ⟨q,hq⟩:=List.mem_iff_getElem?.mp hid;rw[za q id hq,zW]at ha;rw[ma q id hq]at hm;by_cases hid':id'∈tot
   .obtain ⟨q',hq'⟩:=List.mem_iff_getElem?.mp hid';rw[za q' id' hq',zW]at ha';rw[ma q' id' hq']at hm';have:=hs'.inj q q' hd hd' b ha ha' hm hm' hi hi';subst this;rw[hq]at hq';cases hq';rfl
   .exfalso;rw[zb id' hid']at ha';rw[mb id' hid']at hm';rcases hnew b ⟨q,hd,ha,hm,hi⟩with h|h
    .exact apart id' hd' b hid' ha' hm' hi' h
    .have:=(hs.blk id' hd' b ha' hm' hi').1;omega
  .rw [zb id hid]at ha;rw[mb id hid]at hm;by_cases hid':id'∈tot
   .exfalso;obtain⟨q,hq⟩:=List.mem_iff_getElem?.mp hid';rw[za q id' hq,zW]at ha';rw[ma q id' hq]at hm';rcases hnew b ⟨q,hd',ha',hm',hi'⟩with h|h
    .exact apart id hd b hid ha hm hi h
    .have:=(hs.blk id hd b ha hm hi).1;omega
   .rw [zb id' hid']at ha';rw[mb id' hid']at hm';exact hs.inj id id' hd hd' b ha ha' hm hm' hi hi'
 .intro id;by_cases hid:id∈tot
  .right;obtain⟨q,hq⟩:=List.mem_iff_getElem?.mp hid;rw[za q id hq,ma q id hq];have ho:=hs'.obj q;generalize jp objs' q=oo at ho;cases oo with
   |dead=>trivial
   |gone=>trivial
   |box cs=>
    obtain⟨hd,g1,g2⟩:=ho;refine⟨hd,g1,?_⟩;cases hd with
    |none=>exact g2
    |tre=>exact g2.elim
    |mp=>exact g2.elim
    |blk b c n=>
     obtain⟨cc,T,k1,k2,k3⟩:=g2;exact⟨cc,T,k1,k2,qI (MonoW.sub hsub) hbk _ _ k3⟩
   |row k xs=>
    obtain⟨hd,g1,g2⟩:=ho;exact⟨hd,g1,zF (MonoW.sub hsub) (λ_ _ _ _=>rfl) g2⟩
   |map xs=>
    obtain⟨hd,g1,g2⟩:=ho;exact⟨hd,g1,qt (MonoW.sub hsub) (λ_ _=>rfl) g2⟩
   |fro k xs=>
    obtain⟨hd,g1,g0,g2⟩:=ho;exact⟨hd,g1,g0,λv hv=>js (MonoW.sub hsub) _ _ (g2 v hv)⟩
   |tre f k xs=>exact ho
  .left;refine⟨zb id hid,mb id hid,λhd b ha hm hi=>?_⟩;exact hkeep b (hs.blk id hd b ha hm hi).1 (apart id hd b hid ha hm hi)
end
noncomputable section
mutual
def kY:V->Bool
 |.d a=>kX a
 |.agg cs=>zN cs
 |.tup cs=>zN cs
 |.fn _ cs=>zN cs
 |.sub _ _ _ _=>false
 |_=>true
def zN:Xj->Bool
 | []=>true
 |c::cs=>kY c && zN cs
end
section
variable{w:World}{O O':Nat->Prop}{m:jq}
mutual
theorem ZB:∀(v:V)(u:Value),kY v=true->relV w O m v u->relV w O' m v u
 |.top,_,_,_=>by simp[relV]
 |.nil _,u,_,hr=>by simpa[relV]using hr
 |.d a,u,hf,hr=>by simp only[kY]at hf;simp only[relV]at hr⊢;exact yF a u hf hr
 |.agg cs,u,hf,hr=>by
  simp only[kY]at hf;simp only[relV]at hr⊢;obtain⟨vs,h1,h2⟩:=hr;exact⟨vs,h1,yd cs vs hf h2⟩
 |.tup cs,u,hf,hr=>by
  simp only[kY]at hf;simp only[relV]at hr⊢;obtain⟨vs,h1,h2⟩:=hr;exact⟨vs,h1,yd cs vs hf h2⟩
 |.fn f cs,u,hf,hr=>by
  simp only[kY]at hf;simp only[relV]at hr⊢;obtain⟨vs,h1,h2⟩:=hr;exact⟨vs,h1,yd cs vs hf h2⟩
 |.ptr _ _,u,_,hr=>by simpa[relV]using hr
 |.row _,u,_,hr=>by simpa[relV]using hr
 |.rptr _ _ _ _,u,_,hr=>by simpa[relV]using hr
 |.win _ _ _ _,u,_,hr=>by simpa[relV]using hr
 |.ub _ _,u,_,hr=>by simpa[relV]using hr
 |.sub _ _ _ _,u,hf,_=>by simp[kY]at hf
theorem yd:∀(cs:Xj)(us:Xh),zN cs=true->ja w O m cs us->ja w O' m cs us
 | [],us,_,hr=>by simpa[ja]using hr
 |c::cs,us,hf,hr=>by
  simp only[zN,jbX]at hf;simp only[ja]at hr⊢;obtain⟨v,r,h1,h2,h3⟩:=hr;exact⟨v,r,h1,ZB c v hf.1 h2,yd cs r hf.2 h3⟩
end
theorem KQ:∀{cs:Xd}{us:Xh},cs.all kX=true->je w O cs us->je w O' cs us
 | [],us,_,h=>by simpa[je]using h
 |c::cs,us,hf,h=>by
  simp only[jev,jbX]at hf;simp only[je]at h⊢;obtain⟨v,r,h1,h2,h3⟩:=h;exact⟨v,r,h1,yF c v hf.1 h2,KQ hf.2 h3⟩
end
def Hd.thaw(th:Bool):Hd->Hd
 |.tre f b c n ks=>.tre (f && !th) b c n ks
 |h=>h
def thO(th:Bool):Abs.Obj->Abs.Obj
 |.tre f k xs=>.tre (f && !th) k xs
 |o=>o
theorem Hd.thaw_blocks(th:Bool)(h:Hd):(h.thaw th).blocks=h.blocks:=by cases h<;>simp[Hd.thaw,Hd.blocks]
theorem Hd.thaw_hdr{th:Bool}{h:Hd}{v:Value}(k:hdr h v):hdr (h.thaw th) v:=by cases h<;>exact k
theorem Hd.thaw_root(th:Bool)(h:Hd):(h.thaw th).root=h.root:=by cases h<;>rfl
theorem jaV(th:Bool)(o:Abs.Obj):(thO th o).alive=o.alive:=by cases o<;>rfl
theorem Q4{w:World}{th:Bool}{k:Nat}{xs:Xc}{hd:Hd}(h:jf w true k xs hd):jf w (true && !th) k xs (hd.thaw th):=by
 cases hd with
 |none=>simpa[jf,Hd.thaw]using h
 |blk=>simp[jf]at h
 |mp=>simp[jf]at h
 |tre f' b c n ks=>simp only[jf,Hd.thaw]at h⊢;exact⟨by rw[h.1],h.2⟩
section
variable{w:World}{O:Nat->Prop}{m:jq}
mutual
theorem ZD(th:Bool):∀(v:V)(u:Value),kY v=true->relV w O m v u->relV w O (λi=>(m i).map (Hd.thaw th)) v u
 |.top,_,_,_=>by simp[relV]
 |.nil _,u,_,hr=>by simpa[relV]using hr
 |.d a,u,_,hr=>by simpa[relV]using hr
 |.agg cs,u,hf,hr=>by
  simp only[kY]at hf;simp only[relV]at hr⊢;obtain⟨vs,h1,h2⟩:=hr;exact⟨vs,h1,yf th cs vs hf h2⟩
 |.tup cs,u,hf,hr=>by
  simp only[kY]at hf;simp only[relV]at hr⊢;obtain⟨vs,h1,h2⟩:=hr;exact⟨vs,h1,yf th cs vs hf h2⟩
 |.fn f cs,u,hf,hr=>by
  simp only[kY]at hf;simp only[relV]at hr⊢;obtain⟨vs,h1,h2⟩:=hr;exact⟨vs,h1,yf th cs vs hf h2⟩
 |.ptr id off,u,_,hr=>by
  simp only[relV]at hr⊢;obtain⟨b,c,n,h1,h2⟩:=hr;exact⟨b,c,n,by rw[h1];rfl,h2⟩
 |.row id,u,_,hr=>by
  simp only[relV]at hr⊢;obtain⟨hd,h1,h2⟩:=hr;exact⟨hd.thaw th,by rw[h1];rfl,Hd.thaw_hdr h2⟩
 |.rptr id i k j,u,_,hr=>by
  simp only[relV]at hr⊢;obtain⟨hd,b,h1,h2,h3⟩:=hr;exact⟨hd.thaw th,b,by rw[h1];rfl,(Hd.thaw_root th hd).trans h2,h3⟩
 |.win id k off n,u,_,hr=>by
  simp only[relV]at hr⊢;obtain⟨hd,h1,h2⟩:=hr;refine⟨hd.thaw th,by rw[h1];rfl,?_⟩;cases hd<;>exact h2
 |.ub _ _,u,_,hr=>by simpa[relV]using hr
 |.sub _ _ _ _,u,hf,_=>by simp[kY]at hf
theorem yf(th:Bool):∀(cs:Xj)(us:Xh),zN cs=true->ja w O m cs us->ja w O (λi=>(m i).map (Hd.thaw th)) cs us
 | [],us,_,hr=>by simpa[ja]using hr
 |c::cs,us,hf,hr=>by
  simp only[zN,jbX]at hf;simp only[ja]at hr⊢;obtain⟨v,r,h1,h2,h3⟩:=hr;exact⟨v,r,h1,ZD th c v hf.1 h2,yf th cs r hf.2 h3⟩
end
end
def Ku(xs:Xc):Bool:=xs.all λx=>x.all kX
theorem Zc{xs:Xc}(h:Ku xs=true):xs.flatten.all kX=true:=by
 unfold Ku at h;rw[jfn]at h⊢;intro a ha;obtain⟨x,hx,ha⟩:=jfD.1 ha;exact jfn.1 (h x hx) a ha
def qj:Xf->List Xc->Bool
 |k::ks,r::rs=>(Nat.ble 64 k || Ku r) && qj ks rs
 |_,_=>true
theorem Kv:∀{ks:Xf}{rs:List Xc}{j k:Nat}{r:Xc},qj ks rs=true->rs[j]? = some r->ks[j]? = some k->Nat.blt k 64=true->Ku r=true
 | [],_,_,_,_,_,_,h,_=>by simp at h
 |_::_,[],_,_,_,_,h,_,_=>by simp at h
 |k0::ks,r0::rs,j,k,r,h,h1,h2,h3=>by
  simp only[qj,jbX,Bool.or_eq_true]at h;cases j with
  |zero=>
   simp at h1 h2;subst h1 h2;rcases h.1 with h|h
   .rw [jeu]at h3;rw[jft]at h;omega
   .exact h
  |succ j=>exact Kv h.2 (by simpa using h1) (by simpa using h2) h3
theorem jl.rdcall{P:Program}{X:Ctx}{o:Oper}{ρ:Operand->V}{f:Operand}{xs:Array Operand}{ts:Array TypeId}(ho:o.op = .call { callee:= .value f,args:=xs,argTypes:=ts }){g:FuncId}{as0:Xd}{rds:Xm}{sg:SigA}{out:Out}
  (hp:SOk X P g (as0.map V.d) [] sg out) (hws:sg.ws=[])
  (hargs:∀(w:World)(O0:Nat->Prop)(m:jq)(st:jb)(ev:Operand->Value),Sto X w O0 m st->(∀r∈rds,jC st r)->(∀x∈o.op.operands,relV w (Ow O0 m st) m (ρ x) (ev x))->
   ∃us:Xh,ev f = .func (.func g) #[] us.toArray/\je w (Oc O0 m st rds) as0 (xs.toList.map ev++us))
  {as:Xd} {rs:List Xc} (hh:HolesOk sg out as rs) (hf1:kY (sg.r.toV as)=true) (hf2:qj sg.ks rs=true) (h128:sg.ks.all (λk=>Nat.blt k 128)=true) {nid:Nat} {th:Bool} :
  jl P X o ρ ⟨bk (yk nid sg.nw.length) (sg.r.toV as),rds++yx (yk nid sg.nw.length),qb (yk nid sg.nw.length) ((sg.objs as rs).map λo=>thO th (bkO (yk nid sg.nw.length) o))⟩:=by
 intro w O0 m st ev hs hg hr _hc;have hg1:∀r∈rds,jC st r:=λr hr=>hg r (jfv _ hr);have hfr:=yT (st:=st) (l:=yk nid sg.nw.length) λr hr=>hg r (jfZ _ hr);obtain⟨us,h1,h2⟩:=hargs w O0 m st ev hs hg1 hr;have hst0:∀i,jp ([]:List Abs.Obj) i = .dead:=λi=>zX (Nat.zero_le _);have hmz0:∀b,¬Mz (λ_=>none) (jp ([]:List Abs.Obj)) b:=λb ⟨_,_,_,hm,_⟩=>by cases hm
 have hOw0:Ow (Oc O0 m st rds) (λ_=>none) (jp ([]:List Abs.Obj))=Oc O0 m st rds:=by
  funext b;exact propext ⟨λh=>h.elim (λh=>h) λh=>(hmz0 b h).elim,λh=>Or.inl h⟩
 have hsc:Sto X w (Oc O0 m st rds) (λ_=>none) (jp ([]:List Abs.Obj)):=by
  refine⟨hs.j,ja4 hs hg1,λ_ _=>rfl,jcP hs,λid hd b _ h _=>(by cases h),λid id' hd hd' b _ _ h _ _ _=>(by cases h),λid=>?_⟩;rw[hst0];trivial
 have hrel:ja w (Ow (Oc O0 m st rds) (λ_=>none) (jp ([]:List Abs.Obj))) (λ_=>none) (as0.map V.d) (xs.toList.map ev++us):=by
  rw[hOw0];have:∀{as:Xd}{us:Xh},je w (Oc O0 m st rds) as us->ja w (Oc O0 m st rds) (λ_=>none) (as.map V.d) us:=by
   intro as;induction as with
   |nil=>intro us h;simpa[je,ja]using h
   |cons a as ih=>
    intro us h;simp only[je]at h;obtain⟨v,r,rfl,e1,e2⟩:=h;simp only[jd1,ja,relV];exact⟨v,r,rfl,e1,ih e2⟩
  exact this h2
 rw[jP ho h1 hp.1 w];refine⟨rfl,(hp.2 w _ _ _ hsc (λi hi=>(by simp at hi)) hrel).mono ?_⟩;rintro e w' ⟨v,rfl,as',rs',mc',hh',⟨q1,q2,q3,q4⟩,hkeep,hnew,_,hs',hv⟩;obtain⟨rfl,rfl⟩:=hh.eq hh';dsimp only[ko];have hkeep:∀b,b<w.heap.size->w'.heap[b]? = w.heap[b]? :=λb hb=>hkeep b hb (hmz0 b);have hnew:∀b,Mz mc' (jp (sg.objs as' rs')) b->w.heap.size<=b:=λb hb=>(hnew b hb).resolve_left (hmz0 b);have hrows:∀o∈sg.objs as' rs',(∃k xs,o=Abs.Obj.row k xs/\Ku xs=true)\/ ∃k xs,o=Abs.Obj.tre true k xs:=by
  intro o ho';simp only[SigA.objs,SigA.objsB,hws,List.map_nil,jfw,jfx]at ho';obtain⟨j,_,rfl⟩:=ho';have h7:Nat.blt (sg.ks.getD j 0) 128=true:=by
   rw[jcQ];cases hq:sg.ks[j]? with
   |none=>rfl
   |some q=>exact jfn.1 h128 q (jec hq)
  have h8:Nat.blt (sg.ks.getD j 0) 256=true:=by rw[jeu]at h7⊢;omega
  unfold JC zo zf;rw[h8,cond_true];cases hk:Nat.blt (sg.ks.getD j 0) 64 with
  |false=>
   refine Or.inr ?_;have h9:Nat.beq (sg.ks.getD j 0) 128=false:=by
    cases h:Nat.beq (sg.ks.getD j 0) 128 with
    |false=>rfl
    |true=>rw[jeu,jah h]at h7;omega
   simp only[cond_false,h9];exact⟨_,_,rfl⟩
  |true=>
   refine Or.inl ⟨_,_,rfl,?_⟩;rw[jcQ (l:=rs')];cases hj:rs'[j]? with
   |none=>rfl
   |some r=>
    have hlt:j<sg.ks.length:=by rw[<-hh.lr];exact(jeM.1 hj).1
    have hkj:sg.ks[j]? = some sg.ks[j]:=jam hlt;refine Kv hf2 hj hkj ?_;rw[jcQ,hkj]at hk;exact hk
 generalize htot:yk nid sg.nw.length=tot at *;generalize hobj:sg.objs as' rs'=objs' at *;have hol:objs'.length=tot.length:=by rw[<-hobj,<-htot];simp[SigA.objs,SigA.objsB,qB,hws]
 have htn:tot.Nodup:=by rw[<-htot];exact JI _ _
 obtain⟨za,zb⟩:=Jq tot (objs'.map λo=>thO th (bkO tot o)) st htn (by simp[hol]);generalize hst2:ji st (qb tot (objs'.map λo=>thO th (bkO tot o)))=st2 at *;have zr:∀q id,tot[q]? = some id-> ∃o:Abs.Obj,st2 id=thO th o/\jp objs' q=o/\o.alive=true/\((∃k xs,o=Abs.Obj.row k xs/\Ku xs=true)\/ ∃k xs,o=Abs.Obj.tre true k xs):=λq id hq=>by
  have hlt:q<objs'.length:=by rw[hol];exact(List.getElem?_eq_some_iff.mp hq).1
  have hget:objs'[q]? = some objs'[q]:=jam hlt;have hr:=hrows objs'[q] (jfL _);refine⟨objs'[q],?_,jiY hget,by rcases hr with⟨k,xs,e,_⟩|⟨k,xs,e⟩<;>rw[e]<;>rfl,hr⟩;rw[za q id _ hq (by rw[jel,hget];rfl)];rcases hr with⟨k,xs,e,_⟩|⟨k,xs,e⟩<;>rw[e]<;>rfl
 refine⟨v,rfl,λid=>match zj id tot 0 with|some q=>(mc' q).map (Hd.thaw th)|none=>m id,?_⟩;generalize hm2:((λid=>match zj id tot 0 with|some q=>(mc' q).map (Hd.thaw th)|none=>m id):jq)=m2;have ma:∀q id,tot[q]? = some id->m2 id=(mc' q).map (Hd.thaw th):=λq id hq=>by rw[<-hm2];simp only[YN htn hq]
 have mb:∀id,id ∉ tot->m2 id=m id:=λid hid=>by rw[<-hm2];simp only[YO hid]
 have mt:∀q id hd,tot[q]? = some id->m2 id=some hd-> ∃h0,mc' q=some h0/\h0.blocks=hd.blocks:=λq id hd hq h=>by
  rw[ma q id hq]at h;obtain⟨h0,e1,e2⟩:=jeq.1 h;exact⟨h0,e1,by rw[<-e2,Hd.thaw_blocks]⟩
 have tdead:∀id∈tot,m id=none/\st id = .dead:=λid h=>⟨hs.fresh id (hfr id h),hfr id h⟩;have mz2:∀b,Mz m2 st2 b->Mz mc' (jp objs') b\/Mz m st b:=by
  rintro b ⟨id,hd,ha,hm,hi⟩;by_cases hid:id∈tot
  .obtain ⟨q,hq⟩:=List.mem_iff_getElem?.mp hid;obtain⟨o,e1,e2,e3,_⟩:=zr q id hq;obtain⟨h0,hm,hb⟩:=mt q id hd hq hm;exact Or.inl ⟨q,h0,by rw[e2];exact e3,hm,by rw[hb];exact hi⟩
  .rw [zb id hid]at ha;rw[mb id hid]at hm;exact Or.inr ⟨id,hd,ha,hm,hi⟩
 have hchg:Chg w m st w' m2 st2:=by
  refine⟨q1,q2,q3,q4,λb hb _=>hkeep b hb,yp.of ?_,?_⟩
  .intro id h e;by_cases hid:id∈tot
   .rw [(tdead id hid).1]at e;cases e
   .rw [mb id hid];exact e
  .intro b hb;rcases mz2 b hb with hb|hb
   .exact Or.inr (hnew b hb)
   .exact Or.inl hb
 have mzlt:∀b,Mz m st b->b<w.heap.size:=λb ⟨id,hd,ha,hm,hi⟩=>(hs.blk id hd b ha hm hi).1;have hbk:∀q id,tot[q]? = some id-> ∀hd,(λi=>(mc' i).map (Hd.thaw th)) q=some hd->m2 id=some hd:=λq id hq hd h=>by rw[ma q id hq];exact h
 refine⟨hchg,hs.chg hchg ?_ ?_ ?_ ?_,Km (MonoW.refl _ _) hbk _ _ (ZD th _ _ hf1 (ZB _ _ hf1 hv))⟩
 .intro id hd;by_cases hid:id∈tot
  .obtain ⟨q,hq⟩:=List.mem_iff_getElem?.mp hid;obtain⟨o,e1,_,e3,_⟩:=zr q id hq;rw[e1]at hd;have:=jaV th o;rw[hd,e3]at this;cases this
  .rw [zb id hid]at hd;rw[mb id hid];exact hs.fresh id hd
 .intro id hd b ha hm hi;by_cases hid:id∈tot
  .obtain ⟨q,hq⟩:=List.mem_iff_getElem?.mp hid;obtain⟨o,e1,e2,e3,_⟩:=zr q id hq;obtain⟨h0,hm,hb⟩:=mt q id hd hq hm;rw[<-hb]at hi;have hmz:Mz mc' (jp objs') b:=⟨q,h0,by rw[e2];exact e3,hm,hi⟩;have h3:=hs'.blk q h0 b (by rw[e2];exact e3) hm hi;exact Or.inr ⟨h3.1,λh=>by have:=hs.old b h;have:=hnew b hmz;omega⟩
  .rw [zb id hid]at ha;rw[mb id hid]at hm;exact Or.inl ⟨ha,hm⟩
 .intro id id' hd hd' b ha ha' hm hm' hi hi';have key:∀id id' hd hd',id∈tot->id' ∉ tot->(st2 id').alive=true->m2 id=some hd->m2 id'=some hd'->b∈hd.blocks->b∈hd'.blocks->False:=by
   intro id id' hd hd' hid hid' ha' hm hm' hi hi';obtain⟨q,hq⟩:=List.mem_iff_getElem?.mp hid;obtain⟨o,e1,e2,e3,_⟩:=zr q id hq;obtain⟨h0,hm,hb⟩:=mt q id hd hq hm;have:=hnew b ⟨q,h0,by rw[e2];exact e3,hm,by rw[hb];exact hi⟩;rw[zb id' hid']at ha';rw[mb id' hid']at hm';have:=mzlt b ⟨id',hd',ha',hm',hi'⟩;omega
  by_cases hid:id∈tot
  .by_cases hid':id'∈tot
   .obtain ⟨q,hq⟩:=List.mem_iff_getElem?.mp hid;obtain⟨q',hq'⟩:=List.mem_iff_getElem?.mp hid';obtain⟨o,e1,e2,e3,_⟩:=zr q id hq;obtain⟨o',e1',e2',e3',_⟩:=zr q' id' hq';obtain⟨h0,hm,hb⟩:=mt q id hd hq hm;obtain⟨h0',hm',hb'⟩:=mt q' id' hd' hq' hm';have:=hs'.inj q q' h0 h0' b (by rw[e2];exact e3) (by rw[e2'];exact e3') hm hm' (by rw[hb];exact hi) (by rw[hb'];exact hi');subst this;rw[hq]at hq';cases hq';rfl
   .exact (key id id' hd hd' hid hid' ha' hm hm' hi hi').elim
  .by_cases hid':id'∈tot
   .exact (key id' id hd' hd hid' hid ha hm' hm hi' hi).elim
   .rw [zb id hid]at ha;rw[mb id hid]at hm;rw[zb id' hid']at ha';rw[mb id' hid']at hm';exact hs.inj id id' hd hd' b ha ha' hm hm' hi hi'
 .intro id;by_cases hid:id∈tot
  .right;obtain⟨q,hq⟩:=List.mem_iff_getElem?.mp hid;obtain⟨o,e1,e2,_,e3⟩:=zr q id hq;have ho:=hs'.obj q;rw[e2]at ho;rw[e1,ma q id hq];rcases e3 with⟨k,xs,rfl,e3⟩|⟨k,xs,rfl⟩
   .obtain ⟨hd,g1,g2⟩:=ho;refine⟨hd.thaw th,by rw[g1];rfl,?_⟩;cases hd with
    |none=>exact g2
    |tre=>exact g2.elim
    |mp=>exact g2.elim
    |blk b c n=>
     obtain⟨k0,k1,k2,k3,cc,T,k4,k5,k6,k7⟩:=g2;exact⟨k0,k1,k2,k3,cc,T,k4,k5,k6,KQ (Zc e3) k7⟩
   .obtain ⟨hd,g1,g2,g3⟩:=ho;exact⟨hd.thaw th,by rw[g1];rfl,Q4 g2,by rw[Hd.thaw_blocks];exact g3⟩
  .left;refine⟨zb id hid,mb id hid,λhd b ha hm hi=>?_⟩;exact hkeep b (hs.blk id hd b ha hm hi).1
end
open Go Go.RowKit Go.MapKept
noncomputable section
section
variable{P:Program}{X:Ctx}{o:Oper}{ρ:Operand->V}{C:Cfg}
def qE(st:jb)(ws:Xn):Prop:=∀w∈ws,∃id k xs,w = .obj id (.fro k xs)/\(st id = .row k xs\/st id = .fro k xs)
theorem jaq{w:World}{O0:Nat->Prop}{m:jq} :∀(ws:Xn)(st:jb),Sto X w O0 m st->qE st ws->
  Sto X w O0 m (ji st ws)/\Chg w m st w m (ji st ws)/\(∀b,Ow O0 m (ji st ws) b->Ow O0 m st b)/\(∀id k xs,Wr.obj id (.fro k xs)∈ws->ji st ws id = .fro k xs)/\
   (∀id,(∀k xs,Wr.obj id (.fro k xs) ∉ ws)->ji st ws id=st id)
 | [],st,hs,_=>⟨hs,Chg.refl _ _ _,λ_ h=>h,(λ_ _ _ h=>by cases h),λ_ _=>rfl⟩
 |x::ws,st,hs,hw=>by
  obtain⟨id,k,xs,rfl,h1⟩:=hw x (by simp);have hs1:Sto X w O0 m (app st (.obj id (.fro k xs)))/\Chg w m st w m (app st (.obj id (.fro k xs)))/\(∀b,Ow O0 m (app st (.obj id (.fro k xs))) b->Ow O0 m st b):=by
   show Sto X w O0 m (upd st id (.fro k xs))/\_;rcases h1 with h1|h1
   .exact ⟨hs.freeze h1,Chg.ghost (λh=>(by cases h)),Jo (λh=>(by cases h))⟩
   .have e:upd st id (.fro k xs)=st:=by
     funext i;by_cases e:i=id
     .subst e;rw[jc,h1]
     .rw [upd_ne _ _ e]
    show _/\Chg w m st w m (upd st id (.fro k xs))/\ ∀b,Ow O0 m (upd st id (.fro k xs)) b->_;rw[e];exact⟨hs,Chg.refl _ _ _,λ_ h=>h⟩
  have hw':qE (app st (.obj id (.fro k xs))) ws:=by
   intro y hy;obtain⟨id',k',xs',rfl,h2⟩:=hw y (by simp[hy]);refine⟨id',k',xs',rfl,?_⟩;show upd st id (.fro k xs) id'=_\/upd st id (.fro k xs) id'=_;by_cases e:id'=id
   .subst e;right;rw[jc];rcases h1 with h1|h1<;>rcases h2 with h2|h2<;>rw[h1]at h2<;>cases h2<;>rfl
   .rw [upd_ne _ _ e];exact h2
  obtain⟨a1,a2,a3,a4,a5⟩:=jaq ws _ hs1.1 hw';refine⟨a1,hs1.2.1.trans a2,λb hb=>hs1.2.2 b (a3 b hb),?_,?_⟩
  .intro id' k' xs' hm;by_cases hin:Wr.obj id' (.fro k' xs')∈ws
   .exact a4 id' k' xs' hin
   .rcases ja1.1 hm with hm|hm
    .simp only[Wr.obj.injEq,Obj.fro.injEq]at hm;obtain⟨rfl,rfl,rfl⟩:=hm;by_cases hin2:∃k2 xs2,Wr.obj id' (.fro k2 xs2)∈ws
     .obtain ⟨k2,xs2,hin2⟩:=hin2;obtain⟨id3,k3,xs3,e3,h3⟩:=hw _ (List.mem_cons_of_mem _ hin2);cases e3;have:(.fro k' xs':Obj) = .fro k2 xs2:=by
       rcases h1 with h1|h1<;>rcases h3 with h3|h3<;>rw[h1]at h3<;>cases h3<;>rfl
      cases this;exact absurd hin2 hin
     .show ji (app st _) ws id'=_;rw[a5 id' λk2 xs2 h2=>hin2 ⟨k2,xs2,h2⟩];exact jc _ _ _
    .exact absurd hm hin
  .intro id' hn;show ji (app st _) ws id'=_;rw[a5 id' λk2 xs2 h2=>hn k2 xs2 (by simp[h2])];exact upd_ne _ _ λe=>hn k xs (by subst e;simp)
def j6(st:jb):Xj->Option (Xd×Xm×Xn)
 | []=>some ([],[],[])
 |.d a::cs=>(match j6 st cs with|some (as,r,w)=>some (a::as,r,w)|none=>none)
 |.nil k::cs=>(match j6 st cs with|some (as,r,w)=>some (.sl k []::as,r,w)|none=>none)
 |.row id::cs=>(match j6 st cs with
  |some (as,r,w)=>(match st id with
   |.row k xs=>some (.sl k xs::as,.obj id (.row k xs)::r,.obj id (.fro k xs)::w)
   |.fro k xs=>some (.sl k xs::as,.obj id (.fro k xs)::r,w)
   |_=>none)
  |none=>none)
 |_::_=>none
theorem ky{st st':jb} :∀{cs:Xj}{as:Xd}{r:Xm}{ws:Xn},j6 st cs=some (as,r,ws)->(∀x∈r,jC st' x)->qE st' ws
 | [],as,r,ws,h,_=>by simp only[j6,jb4,jem]at h;obtain⟨_,_,rfl⟩:=h;intro w hw;cases hw
 |c::cs,as,r,ws,h,hg=>by
  cases c<;>simp only[j6,reduceCtorEq]at h
  case d a=>
   split at h
   .rename_i h1;cases h;exact ky h1 hg
   .cases h
  case nil k=>
   split at h
   .rename_i h1;cases h;exact ky h1 hg
   .cases h
  case row id=>
   split at h
   .rename_i as' r' w' h1;split at h
    .rename_i k xs h2;cases h;intro w hw;rcases ja1.1 hw with rfl|hw
     .exact ⟨id,k,xs,rfl,Or.inl (hg (.obj id (.row k xs)) (by simp))⟩
     .exact ky h1 (λx hx=>hg x (by simp[hx])) w hw
    .cases h;exact ky h1 λx hx=>hg x (by simp[hx])
    .cases h
   .cases h
theorem kR{st:jb} :∀{cs:Xj}{as:Xd}{r:Xm}{ws:Xn},j6 st cs=some (as,r,ws)-> ∀x∈r,jC st x
 | [],as,r,ws,h=>by simp only[j6,jb4,jem]at h;obtain⟨_,rfl,_⟩:=h;simp
 |c::cs,as,r,ws,h=>by
  cases c<;>simp only[j6,reduceCtorEq]at h
  case d a=>
   split at h
   .rename_i h1;cases h;exact kR h1
   .cases h
  case nil k=>
   split at h
   .rename_i h1;cases h;exact kR h1
   .cases h
  case row id=>
   split at h
   .rename_i as' r' w' h1;split at h
    .rename_i k xs h2;cases h;intro x hx;rcases ja1.1 hx with rfl|hx
     .exact h2
     .exact kR h1 x hx
    .rename_i k xs h2;cases h;intro x hx;rcases ja1.1 hx with rfl|hx
     .exact h2
     .exact kR h1 x hx
    .cases h
   .cases h
theorem zv{st0 st st1:jb}{w:World}{O0:Nat->Prop}{m:jq}(hs1:Sto X w O0 m st1)(hsub:∀b,Ow O0 m st1 b->Ow O0 m st b):∀{cs:Xj}{as:Xd}{r:Xm}{ws:Xn}{us:Xh},
  j6 st0 cs=some (as,r,ws)->(∀x∈r,jC st x)->(∀id k xs,Wr.obj id (.fro k xs)∈ws->st1 id = .fro k xs)->(∀id k xs,st id = .fro k xs->st1 id = .fro k xs)->ja w (Ow O0 m st) m cs us->je w (Ow O0 m st1) as us
 | [],as,r,ws,us,h,_,_,_,hr=>by simp only[j6,jb4,jem]at h;obtain⟨rfl,_,_⟩:=h;simpa[ja,je]using hr
 |c::cs,as,r,ws,us,h,hg,h1,h2,hr=>by
  cases c<;>simp only[j6,reduceCtorEq]at h
  case d a=>
   split at h
   .rename_i h3;cases h;simp only[ja,relV]at hr;obtain⟨v,t,rfl,g1,g2⟩:=hr;simp only[je];exact⟨v,t,rfl,js (MonoW.sub hsub) _ _ g1,zv hs1 hsub h3 hg h1 h2 g2⟩
   .cases h
  case nil k=>
   split at h
   .rename_i h3;cases h;simp only[ja,relV]at hr;obtain⟨v,t,rfl,⟨a,rfl⟩,g2⟩:=hr;simp only[je,rel];exact⟨_,t,rfl,⟨a,0,rfl,by simp,by omega,Or.inl trivial⟩,zv hs1 hsub h3 hg h1 h2 g2⟩
   .cases h
  case row id=>
   simp only[ja]at hr;obtain⟨v,t,rfl,g1,g2⟩:=hr;have key:∀k xs,st1 id = .fro k xs->rel w (Ow O0 m st1) (.sl k xs) v:=λk xs hf=>by
    refine kT hs1 hf ?_;simp only[relV]at g1⊢;exact g1
   split at h
   .rename_i as' r' w' h3;split at h
    .rename_i k xs h4;cases h;simp only[je];exact⟨v,t,rfl,key k xs (h1 id k xs (by simp)),zv hs1 hsub h3 (λx hx=>hg x (by simp[hx])) (λid' k' xs' hm=>h1 id' k' xs' (by simp[hm])) h2 g2⟩
    .rename_i k xs h4;cases h;simp only[je];exact⟨v,t,rfl,key k xs (h2 id k xs (hg (.obj id (.fro k xs)) (by simp))),zv hs1 hsub h3 (λx hx=>hg x (by simp[hx])) h1 h2 g2⟩
    .cases h
   .cases h
theorem JL(st:jb)(a b:Xn):ji st (a++b)=ji (ji st a) b:=by simp[ji]
theorem ZH{st0 st:jb}{w:World}{O0:Nat->Prop}{m:jq}(hs:Sto X w O0 m st){cs:Xj}{as:Xd}{r:Xm}{ws:Xn}{us:Xh}(h:j6 st0 cs=some (as,r,ws))(hg:∀x∈r,jC st x)(hr:ja w (Ow O0 m st) m cs us) :
  Sto X w O0 m (ji st ws)/\Chg w m st w m (ji st ws)/\je w (Ow O0 m (ji st ws)) as us/\(∀b,Ow O0 m (ji st ws) b->Ow O0 m st b)/\(∀id,st id = .dead->ji st ws id = .dead)/\
   (∀id k xs,st id = .row k xs->ji st ws id = .row k xs\/ji st ws id = .fro k xs)/\(∀id cs,st id = .box cs->ji st ws id = .box cs)/\(∀id k xs,st id = .fro k xs->ji st ws id = .fro k xs):=by
 have hab:=ky h hg;obtain⟨a1,a2,a3,a4,a5⟩:=jaq ws st hs hab;have key:∀id,ji st ws id=st id\/ ∃k xs,ji st ws id = .fro k xs/\(st id = .row k xs\/st id = .fro k xs):=by
  intro id;by_cases hin:∃k xs,Wr.obj id (.fro k xs)∈ws
  .obtain ⟨k,xs,hin⟩:=hin;obtain⟨id',k',xs',e,h1⟩:=hab _ hin;cases e;exact Or.inr ⟨k,xs,a4 id k xs hin,h1⟩
  .exact Or.inl (a5 id λk xs hh=>hin ⟨k,xs,hh⟩)
 have hfro:∀id k xs,st id = .fro k xs->ji st ws id = .fro k xs:=λid k xs hh=>by
  rcases key id with e|⟨k',xs',e,h1⟩
  .rw [e,hh]
  .rcases h1 with h1|h1<;>rw[hh]at h1<;>cases h1<;>exact e
 refine⟨a1,a2,zv a1 a3 h hg a4 hfro hr,a3,λid hd=>?_,λid k xs hh=>?_,λid cs hh=>?_,hfro⟩
 .rcases key id with e|⟨k',xs',e,h1⟩
  .rw [e,hd]
  .rcases h1 with h1|h1<;>rw[hd]at h1<;>cases h1
 .rcases key id with e|⟨k',xs',e,h1⟩
  .exact Or.inl (by rw[e,hh])
  .rcases h1 with h1|h1<;>rw[hh]at h1<;>cases h1<;>exact Or.inr e
 .rcases key id with e|⟨k',xs',e,h1⟩
  .rw [e,hh]
  .rcases h1 with h1|h1<;>rw[hh]at h1<;>cases h1
theorem jvm{w w':World}{O0:Nat->Prop}{m:jq}{st:jb}(hs:Sto X w O0 m st)(hb:Below w.heap.size w w'){nid:Nat}(hf:st nid = .dead){o:Obj}{hd:Hd}(hnew:∀b∈hd.blocks,w.heap.size<=b) :
  MonoW w (Ow O0 m st) w' (Ow O0 (upd m nid (some hd)) (upd st nid o))/\yp m (upd m nid (some hd)):=by
 have hm:=hs.fresh nid hf;have hmz:∀b,Ow O0 (upd m nid (some hd)) (upd st nid o) b->Ow O0 m st b\/w.heap.size<=b:=by
  rintro b (h|⟨i,hd',ha,hmi,hi⟩)
  .exact Or.inl (Or.inl h)
  .by_cases e:i=nid
   .subst e;rw[jc]at hmi;cases hmi;exact Or.inr (hnew b hi)
   .rw [upd_ne _ _ e]at ha hmi;exact Or.inl (Or.inr ⟨i,hd',ha,hmi,hi⟩)
 refine⟨⟨hb.size,λb h _=>hb.block b h,λb h hn ho=>by rcases hmz b ho with h1|h1;exact hn h1;omega⟩,yp.of λid h e=>?_⟩
 have:id≠nid:=λe'=>by subst e';rw[hm]at e;cases e
 rw[upd_ne _ _ this];exact e
theorem JY{w w':World}{O0:Nat->Prop}{m:jq}{st:jb}(hs:Sto X w O0 m st)(hb:Below w.heap.size w w')(hsz:w.heap.size<w'.heap.size){nid:Nat}(hf:st nid = .dead){cs:Xj}{c:Array Value}{T:TypeId}
  (hc:w'.heap[w.heap.size]? = some (.cells c T (0,0))) (ho:jd c.toList) (hr:ja w (Ow O0 m st) m cs c.toList) :
  ko X w O0 m st [.obj nid (.box cs)] (.ptr nid 0) w' (.pointer (some ⟨w.heap.size,0,none⟩)):=by
 have hnew:∀b∈(Hd.blk w.heap.size 0 0).blocks,w.heap.size<=b:=λb e=>by rw[zZ e];exact jdB _
 obtain⟨hmono,hext⟩:=jvm hs hb hf (o:= .box cs) hnew;obtain⟨k1,k2⟩:=J9 hs hb hf (hd:= .blk w.heap.size 0 0) (o:= .box cs) (λh=>by cases h) (λb e=>by rw[zZ e];exact⟨jdB _,hsz⟩) ⟨_,rfl,c,T,hc,ho,kx hmono hext _ _ hr⟩;exact⟨_,k1,k2,by simp only[relV];exact⟨_,_,_,jc _ _ _,rfl⟩⟩
def jc5(w w':World)(O:Nat->Prop)(k:Nat)(xs:Xc)(hd:Hd):Prop:=
 (hd = .none/\xs=[])\/ ∃cap c T,hd = .blk w.heap.size cap xs.length/\w.heap.size<w'.heap.size/\xs.length<=cap/\cap<=9223372036854775807/\(∀x∈xs,x.length=k)/\w'.heap[w.heap.size]? = some (.cells c T (0,0))/\
   c.size=cap*k/\jd (c.toList.take (xs.length*k))/\je w O xs.flatten (c.toList.take (xs.length*k))
theorem j4{w w':World}{O0:Nat->Prop}{m:jq}{st:jb}(hs:Sto X w O0 m st)(hb:Below w.heap.size w w'){nid:Nat}(hf:st nid = .dead){k:Nat}{xs:Xc}{hd:Hd}{v:Value}(hv:hdr hd v)
  (hr:jc5 w w' (Ow O0 m st) k xs hd):ko X w O0 m st [.obj nid (.row k xs)] (.row nid) w' v:=by
 have hnew:∀b∈hd.blocks,w.heap.size<=b/\b<w'.heap.size:=λb e=>by
  rcases hr with⟨rfl,_⟩|⟨cap,c',T,rfl,h1,_⟩
  .simp [Hd.blocks]at e
  .rw [zZ e];exact⟨jdB _,h1⟩
 obtain⟨hmono,hext⟩:=jvm hs hb hf (o:= .row k xs) (hd:=hd) λb e=>(hnew b e).1;obtain⟨k1,k2⟩:=J9 hs hb hf (hd:=hd) (o:= .row k xs) (λh=>by cases h) hnew ⟨hd,rfl,by
  rcases hr with⟨rfl,rfl⟩|⟨cap,c,T,rfl,h1,h2,h3,h4,h5,h6,h7,h8⟩
  .simp [rowOk]
  .exact ⟨rfl,h2,h3,h4,c,T,h5,h6,h7,jo hmono _ _ h8⟩⟩
 exact⟨_,k1,k2,by simp only[relV];exact⟨_,jc _ _ _,hv⟩⟩
theorem ko.after{w w':World}{O0:Nat->Prop}{m:jq}{st:jb}{ws ws':Xn}{v:V}{u:Value}(hc:Chg w m st w m (ji st ws))(h:ko X w O0 m (ji st ws) ws' v w' u):ko X w O0 m st (ws++ws') v w' u:=by
 obtain⟨m',h1,h2,h3⟩:=h;rw[<-JL]at h1 h2 h3;exact⟨m',hc.trans h1,h2,h3⟩
theorem kQ(P:Program){w:World}{b:Nat}{c:Array Value}{T:TypeId}(h:w.heap[b]? = some (.cells c T (0,0)))(off:Nat)(vs:Xh)(hl:off+vs.length<=c.size)(h1:jd vs) :
  ∃W:World,(storeCells ⟨b,off,none⟩ vs).run P w = .ok () W/\W.os=w.os/\W.tape=w.tape/\Quiet w W/\W.heap.size=w.heap.size/\(∀b',b'≠b->W.heap[b']? = w.heap[b']?)/\
   W.heap[b]? = some (.cells (over c.toList off vs).toArray T (0,0)):=by
 have hst:=run_storeCells_at P b off T vs 0 c w h (by omega) h1;simp only[jfg]at hst;exact⟨_,hst,rfl,rfl,(Quiet.refl _),by simp,λb' hne=>setRow_other w b b' _ hne,setRow_heap w b c _ T _ h⟩
theorem qv{w W:World}{O0:Nat->Prop}{m:jq}{st:jb}(hs:Sto X w O0 m st){id b:Nat}{hd:Hd}(ha:(st id).alive=true)(hm:m id=some hd)(hi:b∈hd.blocks){o':Obj}(ha':o'.alive=true)
  (w1:W.os=w.os) (w2:W.tape=w.tape) (w3:Quiet w W) (w4:W.heap.size=w.heap.size) (w5:∀b',b'≠b->W.heap[b']? = w.heap[b']?)
  (hok:MonoW w (Ow O0 m st) W (Ow O0 m (upd st id o'))->yl W (Ow O0 m (upd st id o')) m o' (m id)):Chg w m st W m (upd st id o')/\Sto X W O0 m (upd st id o'):=by
 have hMz:∀b',Mz m (upd st id o') b'->Mz m st b':=λb'=>Qw λ_=>ha;have hchg:Chg w m st W m (upd st id o'):=
  ⟨w1,w2,w3,by omega,λb' _ hn=>w5 b' λe=>hn (by subst e;exact⟨id,hd,ha,hm,hi⟩),yp.refl m,λb' h=>Or.inl (hMz b' h)⟩
 have al:∀i,(upd st id o' i).alive=true->(st i).alive=true:=λi h=>by
  by_cases e:i=id
  .subst e;exact ha
  .rwa [upd_ne _ _ e]at h
 refine⟨hchg,hs.chg hchg ?_ (λi hd' b' h1 h2 _=>Or.inl ⟨al i h1,h2⟩) (λi i' hd1 hd2 b' h1 h2=>hs.inj i i' hd1 hd2 b' (al i h1) (al i' h2)) ?_⟩
 .intro i h;by_cases e:i=id
  .subst e;rw[jc]at h;rw[h]at ha';cases ha'
  .rw [upd_ne _ _ e]at h;exact hs.fresh i h
 .intro i;by_cases e:i=id
  .subst e;rw[jc];exact Or.inr (hok (hchg.monoW O0))
  .rw [upd_ne _ _ e];refine Or.inl ⟨rfl,rfl,λhd' b' h1 h2 h3=>w5 b' λe'=>e ?_⟩;subst e';exact hs.inj i id hd' hd b' h1 ha h2 hm h3 hi
theorem JA{w W:World}{O0:Nat->Prop}{m:jq}{st:jb}(hs:Sto X w O0 m st){id b c n:Nat}(ha:(st id).alive=true)(hm:m id=some (.blk b c n)){o':Obj}(ha':o'.alive=true)
  (w1:W.os=w.os) (w2:W.tape=w.tape) (w3:Quiet w W) (w4:W.heap.size=w.heap.size) (w5:∀b',b'≠b->W.heap[b']? = w.heap[b']?)
  (hok:MonoW w (Ow O0 m st) W (Ow O0 m (upd st id o'))->yl W (Ow O0 m (upd st id o')) m o' (m id)):Chg w m st W m (upd st id o')/\Sto X W O0 m (upd st id o'):=
 qv hs ha hm j8 ha' w1 w2 w3 w4 w5 hok
theorem jbv{w:World}{O0:Nat->Prop}{m:jq}{st:jb}(hs:Sto X w O0 m st){id nid:Nat}(hne:id≠nid)(hal:(st id).alive=true)(hf:st nid = .dead){hd hd':Hd}(hm:m id=some hd)
  (hsub:∀b∈hd'.blocks,b∈hd.blocks) {o:Obj} (ho:o≠ .dead)
  (hok:MonoW w (Ow O0 m st) w (Ow O0 (upd m nid (some hd')) (upd (upd st id .gone) nid o))->yl w (Ow O0 (upd m nid (some hd')) (upd (upd st id .gone) nid o)) (upd m nid (some hd')) o (some hd')) :
  Chg w m st w (upd m nid (some hd')) (upd (upd st id .gone) nid o)/\Sto X w O0 (upd m nid (some hd')) (upd (upd st id .gone) nid o):=by
 have hmn:=hs.fresh nid hf;have sid:upd (upd st id .gone) nid o id = .gone:=by rw[upd_ne _ _ hne,jc]
 have oth:∀i,i≠id->i≠nid->upd (upd st id .gone) nid o i=st i/\upd m nid (some hd') i=m i:=λi h1 h2=>by
  rw[upd_ne _ _ h2,upd_ne _ _ h1,upd_ne _ _ h2];exact⟨rfl,rfl⟩
 have hchg:Chg w m st w (upd m nid (some hd')) (upd (upd st id .gone) nid o):=by
  refine⟨rfl,rfl,(Quiet.refl _),jdB _,λ_ _ _=>rfl,yp.of λi h e=>?_,λb hb=>Or.inl ?_⟩
  .have:i≠nid:=λe'=>by subst e';rw[hmn]at e;cases e
   rw[upd_ne _ _ this];exact e
  .obtain ⟨i,hi,h1,h2,h3⟩:=hb;by_cases e1:i=nid
   .subst e1;rw[jc]at h2;cases h2;exact⟨id,hd,hal,hm,hsub b h3⟩
   .by_cases e2:i=id
    .subst e2;rw[sid]at h1;cases h1
    .obtain ⟨g1,g2⟩:=oth i e2 e1;rw[g1]at h1;rw[g2]at h2;exact⟨i,hi,h1,h2,h3⟩
 refine⟨hchg,hs.chg hchg ?_ ?_ ?_ ?_⟩
 .intro i h;by_cases e1:i=nid
  .subst e1;rw[jc]at h;exact(ho h).elim
  .by_cases e2:i=id
   .subst e2;rw[sid]at h;cases h
   .obtain ⟨g1,g2⟩:=oth i e2 e1;rw[g1]at h;rw[g2];exact hs.fresh i h
 .intro i hi b h1 h2 h3;by_cases e1:i=nid
  .subst e1;rw[jc]at h2;cases h2;exact Or.inr (hs.blk id hd b hal hm (hsub b h3))
  .by_cases e2:i=id
   .subst e2;rw[sid]at h1;cases h1
   .obtain ⟨g1,g2⟩:=oth i e2 e1;rw[g1]at h1;rw[g2]at h2;exact Or.inl ⟨h1,h2⟩
 .have key:∀i hi b,i≠nid->(upd (upd st id .gone) nid o i).alive=true->upd m nid (some hd') i=some hi->b∈hi.blocks->b∈hd'.blocks->False:=by
   intro i hi b e1 h1 h2 h3 h4;by_cases e2:i=id
   .subst e2;rw[sid]at h1;cases h1
   .obtain ⟨g1,g2⟩:=oth i e2 e1;rw[g1]at h1;rw[g2]at h2;exact e2 (hs.inj i id hi hd b h1 hal h2 hm h3 (hsub b h4))
  intro i i' hi hi' b h1 h2 h3 h4 h5 h6;by_cases e1:i=nid
  .by_cases e2:i'=nid
   .rw [e1,e2]
   .subst e1;rw[jc]at h3;cases h3;exact(key i' hi' b e2 h2 h4 h6 h5).elim
  .by_cases e2:i'=nid
   .subst e2;rw[jc]at h4;cases h4;exact(key i hi b e1 h1 h3 h5 h6).elim
   .by_cases e3:i=id
    .subst e3;rw[sid]at h1;cases h1
    .by_cases e4:i'=id
     .subst e4;rw[sid]at h2;cases h2
     .obtain ⟨g1,g2⟩:=oth i e3 e1;obtain⟨g3,g4⟩:=oth i' e4 e2;rw[g1]at h1;rw[g3]at h2;rw[g2]at h3;rw[g4]at h4;exact hs.inj i i' hi hi' b h1 h2 h3 h4 h5 h6
 .intro i;by_cases e1:i=nid
  .subst e1;right;rw[jc,jc];exact hok (hchg.monoW O0)
  .by_cases e2:i=id
   .subst e2;right;rw[sid];trivial
   .obtain ⟨g1,g2⟩:=oth i e2 e1;exact Or.inl ⟨g1,g2,λ_ _ _ _ _=>rfl⟩
def yS(id off:Nat):Xj->Xn
 | []=>[]
 |c::cs=>.cell id off c::yS id (off+1) cs
theorem zt{α:Type}{cs:List α}{off:Nat}{d:α}{ds:List α}(h:off+1+ds.length<=cs.length):over (cs.set off d) (off+1) ds=over cs off (d::ds):=by
 unfold over;exact yA cs off d ds h
theorem qG{id:Nat} :∀{ds:Xj}{off:Nat}{st:jb}{cs:Xj},st id = .box cs->off+ds.length<=cs.length->ji st (yS id off ds)=upd st id (.box (over cs off ds))
 | [],off,st,cs,h,_=>by
  funext i;show st i=_;by_cases e:i=id
  .subst e;rw[jc,h];simp[over]
  .rw [upd_ne _ _ e]
 |d::ds,off,st,cs,h,hl=>by
  have h1:app st (.cell id off d)=upd st id (.box (cs.set off d)):=by
   show upd st id (Wr.on _ (st id))=_;rw[h];rfl
  show ji (app st (.cell id off d)) (yS id (off+1) ds)=_;rw[h1,qG (cs:=cs.set off d) (jc _ _ _) (by simp at hl⊢;omega),K5,zt (by simp at hl;omega)]
theorem jD{α:Type}{cs ds:List α}{off:Nat}(h:off+ds.length<=cs.length):(over cs off ds).length=cs.length:=by
 simp[over];omega
theorem kC{α:Type}(l us:List α)(n off:Nat)(h:off+us.length<=n)(hn:n<=l.length) :
  (over l off us).take n=over (l.take n) off us:=by
 unfold over;have a1:(l.take off).length=off:=by simp;omega
 rw[List.take_append,jfU (by simp[a1];omega),List.take_take,Nat.min_eq_left (by omega),List.drop_take]
 congr 2;simp[a1]
theorem jF{α:Type}{k:Nat} :∀(xs:List (List α))(i j:Nat)(x ds:List α),(∀y∈xs,y.length=k)->xs[i]? = some x->j+ds.length<=x.length->
  (xs.set i (over x j ds)).flatten=over xs.flatten (i*k+j) ds
 | [],i,j,x,ds,_,h,_=>by simp at h
 |y::xs,i,j,x,ds,hk,h,hl=>by
  have hy:=hk y (by simp);cases i with
  |zero=>
   simp at h;subst h;simp only[List.set_cons_zero,jdT,over,Nat.zero_mul,je8];rw[jf5 (by omega),List.drop_append_of_le_length (by omega)];simp[jet]
  |succ i=>
   simp at h;have ih:=jF xs i j x ds (λz hz=>hk z (by simp[hz])) h hl;rw[List.set_cons_succ,jdT,jdT,ih];unfold over;have e1:(i+1)*k+j=y.length+(i*k+j):=by rw[jb5];omega
   have e2:(i+1)*k+j+ds.length=y.length+(i*k+j+ds.length):=by omega
   rw[e2,e1,List.take_length_add_append,List.drop_length_add_append];simp[jet]
theorem jl.storeBox{t:TypeId}{a x:Operand}(ho:o.op = .store t a x){i:TI}(hi:TI.ok P t i){id off len:Nat}(ha:ρ a = .ptr id off){ds:Xj}
  (hx:∀(w:World)(O:Nat->Prop)(m:jq)(u:Value),relV w O m (ρ x) u->ja w O m ds u.cells.toList/\jd u.cells.toList) (hsz:ds.length=i.size) (hl:off+ds.length<=len) :
  jl P X o ρ ⟨.d (.val undef),[.blen id len],yS id off ds⟩:=by
 intro w O0 m st ev hs hg hr _hc;have ha':=hr a (by simp[ho,Op.operands]);have hx':=hr x (by simp[ho,Op.operands]);rw[ha]at ha';simp only[relV]at ha';obtain⟨b,c,n,h1,h2⟩:=ha';obtain⟨h3,h4⟩:=hx _ _ _ _ hx';obtain⟨cs,g1,g2⟩:=hg _ (jdC.2 rfl);have hob:=hs.obj id;rw[g1]at hob;obtain⟨hd,q1,q2⟩:=hob;rw[h1]at q1;cases q1;obtain⟨cc,T,q3,q4,q5⟩:=q2;have l1:=jw h3;have l2:=jw q5;obtain⟨W,hst,w1,w2,w3,w4,w5,w6⟩:=kQ P q3 off (ev x).cells.toList (by simp only[jeK]at l1 l2⊢;omega) h4;have hrun:(execOp ev o).run P w = .ok .skip W:=by
  have hsize:(ev x).cells.size=i.size:=by rw[<-hsz];simpa using l1
  simp only[execOp,ho,Instr.storeAt,h2,Instr.sureAddr,storeVar,jbY,jdA,jbW,hi.run_sizeOf w,hsize,ne_eq,not_true_eq_false,if_false,hst]
 rw[hrun];have hal:(st id).alive=true:=by rw[g1];rfl
 obtain⟨k1,k2⟩:=JA hs hal h1 (o':= .box (over cs off ds)) rfl w1 w2 w3 w4 w5 λhmono=>⟨_,h1,_,T,w6,by simpa using jd.over q4 h4 off,by
  have:=kx (m:=m) hmono (yp.refl m) _ _ (KT (off:=off) q5 h3);simpa using this⟩
 have e:=qG (id:=id) (ds:=ds) (off:=off) (st:=st) (cs:=cs) g1 (by omega);show ko X w O0 m st (yS id off ds) (.d (.val undef)) W undef;refine⟨m,?_,?_,by simp[relV,rel]⟩<;>rw[e]
 .exact k1
 .exact k2
theorem jl.storeRow{t:TypeId}{a x:Operand}(ho:o.op = .store t a x){i:TI}(hi:TI.ok P t i){id ii k j:Nat}(ha:ρ a = .rptr id ii k j){cs:Xd}{vs:Xj}{ds:Xd}{st0:jb}{r:Xm}{ws:Xn}
  (hx:∀(w:World)(O:Nat->Prop)(m:jq)(u:Value),relV w O m (ρ x) u->ja w O m vs u.cells.toList) (hseal:j6 st0 vs=some (ds,r,ws)) (hok:ds.all Ka=true) (hsz:ds.length=i.size) (hl:j+ds.length<=k)
  (hne:∀kk xs,Wr.obj id (.fro kk xs) ∉ ws):jl P X o ρ ⟨.d (.val undef),.elem id ii k cs::r,ws++[.elem id ii (over cs j ds)]⟩:=by
 intro w O0 m st ev hs hg hr _hc;have ha':=hr a (by simp[ho,Op.operands]);have hx':=hr x (by simp[ho,Op.operands]);rw[ha]at ha';simp only[relV]at ha';obtain⟨hd0,b,h0,h1,h2⟩:=ha';have h3:=hx _ _ _ _ hx';have hgr:∀y∈r,jC st y:=λy hy=>hg y (by simp[hy]);obtain⟨s1,s2,s3,s4,s5,s6,s7,s8⟩:=ZH hs hseal hgr h3;obtain⟨xs,g1,g2⟩:=hg (.elem id ii k cs) (by simp);obtain⟨c,n,h1⟩:=Qe hs g1 h0 h1;have hab:=ky hseal hgr;have g1':ji st ws id = .row k xs:=by
  obtain⟨_,_,_,_,a5⟩:=jaq ws st hs hab;rw[a5 id hne,g1]
 have hone:jd (ev x).cells.toList:=by
  have:∀{as:Xd}{us:Xh},je w (Ow O0 m (ji st ws)) as us->as.all Ka=true->jd us:=by
   intro as;induction as with
   |nil=>intro us h _;simp only[je]at h;subst h;intro v hv;cases hv
   |cons a as ih=>
    intro us h hk;simp only[je,jev,jbX]at h hk;obtain⟨v,t,rfl,e1,e2⟩:=h;intro y hy;rcases ja1.1 hy with rfl|hy
    .exact zK e1 hk.1
    .exact ih e2 hk.2 y hy
  exact this s3 hok
 have hob:=s1.obj id;rw[g1']at hob;obtain⟨hd,q1,q2⟩:=hob;rw[h1]at q1;cases q1;obtain⟨q0,q6,q7,q8,cc,T,q3,q9,q4,q5⟩:=q2;have hcl:cs.length=k:=q8 cs (jec g2);have hii:ii<xs.length:=(jeM.1 g2).1;have l1:=jh s3;have hfit:ii*k+j+ds.length<=xs.length*k:=by
  have:(ii+1)*k<=xs.length*k:=jeS k (by omega);rw[jb5]at this;omega
 have hcap:xs.length*k<=cc.size:=by rw[q9];exact jeS k q6
 obtain⟨W,hst,w1,w2,w3,w4,w5,w6⟩:=kQ P q3 (ii*k+j) (ev x).cells.toList (by rw[l1];omega) hone
 have hrun:(execOp ev o).run P w = .ok .skip W:=by
  have hsize:(ev x).cells.size=i.size:=by rw[<-hsz,<-l1];simp
  simp only[execOp,ho,Instr.storeAt,h2,Instr.sureAddr,storeVar,jbY,jdA,jbW,hi.run_sizeOf w,hsize,ne_eq,not_true_eq_false,if_false,hst]
 rw[hrun];have hal:(ji st ws id).alive=true:=by rw[g1'];rfl
 obtain⟨k1,k2⟩:=JA s1 hal h1 (o':= .row k (xs.set ii (over cs j ds))) rfl w1 w2 w3 w4 w5 λhmono=>by
  refine⟨_,h1,by simpa using q0,by simpa using q6,q7,?_,_,T,w6,?_,?_,?_⟩
  .intro y hy;rcases jfQ hy with hy|rfl
   .exact q8 y hy
   .rw [jD (by omega)];exact hcl
  .rw [jfF,jD (by have:=l1;have:=hcap;simp only[jeK]at *;omega),jeK];exact q9
  .simp only[jfz];rw[kC _ _ _ _ (by rw[l1];exact hfit) (by simpa using hcap)];exact jd.over q4 hone _
  .rw [jF xs ii j cs ds q8 g2 (by omega)];simp only[jfz];rw[kC _ _ _ _ (by rw[l1];exact hfit) (by simpa using hcap)];exact jo hmono _ _ (yY q5 s3)
 refine ko.after (X:=X) s2 ?_;have e:ji (ji st ws) [.elem id ii (over cs j ds)]=upd (ji st ws) id (.row k (xs.set ii (over cs j ds))):=by
  show upd (ji st ws) id (Wr.on _ (ji st ws id))=_;rw[g1'];rfl
 refine⟨m,?_,?_,by simp[relV,rel]⟩<;>rw[e]
 .exact k1
 .exact k2
theorem jl.makeMap{t:TypeId}(ho:o.op = .makeMap t none){nid:Nat} :jl P X o ρ ⟨.row nid,[.fresh nid],[.obj nid (.map [])]⟩:=by
 intro w O0 m st ev hs hg hr _hc;have hf:st nid = .dead:=hg (.fresh nid) (by simp);have hrun:(execOp ev o).run P w = .ok (.value (.map (some w.heap.size))) (w.alloc (.map #[] 0)):=by
  simp[execOp,ho,Instr.makeMap]
 rw[hrun];have hnew:∀b∈(Hd.mp w.heap.size).blocks,w.heap.size<=b/\b<(w.alloc (.map #[] 0)).heap.size:=λb e=>by
  simp only[Hd.blocks,jdC]at e;subst e;rw[jR];omega
 obtain⟨k1,k2⟩:=J9 hs (jX w _) hf (hd:= .mp w.heap.size) (o:= .map []) (λh=>by cases h) hnew ⟨_,rfl,#[],0,heap_alloc_new w _,by simp[jE]⟩;exact⟨_,k1,k2,by simp only[relV];exact⟨_,jc _ _ _,rfl⟩⟩
theorem Yl{w:World}{O:Nat->Prop} :∀{xs:Xc}{es:List MapEntry},jE w O xs es->es.length=xs.length
 | [],es,h=>by simp only[jE]at h;simp[h]
 |x::xs,es,h=>by
  simp only[jE]at h;obtain⟨e,r,rfl,_,h3⟩:=h;simp[Yl h3]
theorem ZA{w:World}{O:Nat->Prop}{k v:A}{e':MapEntry}(hk:rel w O k e'.key)(hv:rel w O v e'.val):∀{xs:Xc}{es:List MapEntry}(n:Nat),jE w O xs es->jE w O (xs.set n [k,v]) (es.set n e')
 | [],es,n,h=>by simp only[jE]at h;subst h;simp[jE]
 |x::xs,es,n,h=>by
  simp only[jE]at h;obtain⟨e,r,rfl,h2,h3⟩:=h;cases n with
  |zero=>simp only[List.set_cons_zero,jE];exact⟨_,_,rfl,by simp only[je];exact⟨_,_,rfl,hk,_,_,rfl,hv,rfl⟩,h3⟩
  |succ n=>simp only[List.set_cons_succ,jE];exact⟨_,_,rfl,h2,ZA hk hv n h3⟩
theorem KP{w:World}{O:Nat->Prop}{k v:A}{e':MapEntry}(hk:rel w O k e'.key)(hv:rel w O v e'.val):∀{xs:Xc}{es:List MapEntry},jE w O xs es->jE w O (xs++[[k,v]]) (es++[e'])
 | [],es,h=>by simp only[jE]at h;subst h;simp only[jfw,jE];exact⟨_,_,rfl,by simp only[je];exact⟨_,_,rfl,hk,_,_,rfl,hv,rfl⟩,rfl⟩
 |x::xs,es,h=>by
  simp only[jE]at h;obtain⟨e,r,rfl,h2,h3⟩:=h;simp only[jf0,jE];exact⟨_,_,rfl,h2,KP hk hv h3⟩
theorem jl.mapUpdate{t kt et:TypeId}{x k y:Operand}(ho:o.op = .mapUpdate t x k y)(ht:P.underlying t=some (.map kt et)){ks:Option IntKind}(hkt:P.underlying kt=some (Z9 ks)){id:Nat}(hx:ρ x = .row id){xs ys:Xc}{ka va:A}(hk:dat (ρ k)=some ka)
  (hv:∀(w:World)(O:Nat->Prop)(m:jq)(u:Value),relV w O m (ρ y) u->rel w O va u) (hp:jdp ks xs ka va=some ys):jl P X o ρ ⟨.d (.val undef),[.obj id (.map xs)],[.obj id (.map ys)]⟩:=by
 intro w O0 m st ev hs hg hr _hc;have hst:st id = .map xs:=hg (.obj id (.map xs)) (by simp);have hx':=hr x (by simp[ho,Op.operands]);rw[hx]at hx';have hk':=jm hk (hr k (by simp[ho,Op.operands]));have hv':=hv _ _ _ _ (hr y (by simp[ho,Op.operands]));obtain⟨b,es,clock,h1,h2,h3,h4⟩:=jbu hs hst hx';unfold jdp at hp;split at hp
 .rename_i hok;obtain⟨hik,rfl⟩:=YT hok hk';rw[jeq]at hp;obtain⟨r,hf,hy⟩:=hp;have hwd:∀ob:Go.Obj,∀b',b'≠b->(w.heap.setIfInBounds b ob)[b']? = w.heap[b']? :=λob b' hne=>by simp[Ne.symm hne]
  have hlt:b<w.heap.size:=(jeT.1 h3).1;have fin:∀(es':Array MapEntry)(clock':Nat),(Instr.mapUpdate t (ev x) (ev k) (ev y)).run P w = .ok () { w with heap:=w.heap.setIfInBounds b (.map es' clock') } ->(∀(w':World)(O':Nat->Prop),MonoW w (Ow O0 m st) w' O'->jE w' O' ys es'.toList)->
    Upon P (ko X w O0 m st [.obj id (.map ys)] (.d (.val undef))) w ((execOp ev o).run P w):=by
   intro es' clock' hrun hes;have hex:(execOp ev o).run P w = .ok .skip { w with heap:=w.heap.setIfInBounds b (.map es' clock') } :=by
    simp only[execOp,ho,jbY,hrun,jbW,jdA]
   rw[hex];obtain⟨k1,k2⟩:=qv (W:={ w with heap:=w.heap.setIfInBounds b (.map es' clock') }) hs (id:=id) (by rw[hst];rfl) h1 (b:=b) (by simp[Hd.blocks]) (o':= .map ys) rfl rfl rfl (Quiet.refl _) (by simp) (hwd _) λhmono=>
    ⟨_,h1,es',clock',by simp[hlt],hes _ _ hmono⟩
   exact⟨m,k1,k2,by simp[relV,rel]⟩
  rcases KE h4 hf with⟨rfl,q2⟩|⟨n,a,e,rfl,q2,q3,q4,q5,q6⟩
  .refine fin (es.push { key:=ev k,val:=ev y,born:=clock }) (clock+1) ?_ λw' O' hmono=>?_
   .unfold Instr.mapUpdate;rw[h2];simp only[jbY,jaz ht,jbW,jf6 h3,run_checkKey hkt hik,run_findKey hkt q2,MapKept.run_setObj_map _ h3]
   .rw [<-hy,Array.toList_push];exact KP (by simp[rel]) (js hmono _ _ hv') (kO hmono _ _ h4)
  .refine fin (es.modify n λe=>{ e with key:=ev k,val:=ev y }) clock ?_ λw' O' hmono=>?_
   .have hj:es[n]? = some e:=by simpa using q3
    unfold Instr.mapUpdate;rw[h2];simp only[jbY,jaz ht,jbW,jf6 h3,run_checkKey hkt hik,run_findKey hkt q2,je8,hj,jen,Option.getD_some,q4,run_keyThatStays hik,MapKept.run_setObj_map _ h3]
   .rw [<-hy];simp only[je8];have e1:(es.modify n λe=>{ e with key:=ev k,val:=ev y }).toList=es.toList.set n { e with key:=ev k,val:=ev y } :=by
     rw[Array.toList_modify,List.modify_eq_set,q3];rfl
    rw[e1];exact ZA (by simp[rel]) (js hmono _ _ hv') n (kO hmono _ _ h4)
 .cases hp
end
end
noncomputable section
section
variable{P:Program}{X:Ctx}{o:Oper}{ρ:Operand->V}{C:Cfg}
def ym(w:World)(O:Nat->Prop)(k:Nat)(ys:Xc)(v:Value):Prop:=
 ∃ad c news,v = .slice ad ys.length c/\je w O ys.flatten news/\jd news/\(∀y∈ys,y.length=k)/\(ys=[]\/ ∃b off,ad=some ⟨b,off,none⟩/\Reads w b off news)
theorem Qm{w:World}{O:Nat->Prop}{k:Nat}{ys:Xc}{v:Value}(h:rel w O (.sl k ys) v):ym w O k ys v:=by
 simp only[rel]at h;obtain⟨a,cap,rfl,h2,h3,h4⟩:=h;rcases h4 with rfl|⟨b,off,h5,h6,h7,h8⟩
 .exact ⟨a,cap,[],rfl,by simp[je],(λv h=>by cases h),by simp,Or.inl rfl⟩
 .obtain ⟨vs,g1,g2,g4,g3⟩:=yb h8;exact⟨a,cap,vs,rfl,g1,g4,g3,Or.inr ⟨b,off,h5,g2⟩⟩
theorem jat{w:World}{O:Nat->Prop}{k:Nat}{ys:Xc}{hd:Hd}{v:Value}(h:rowOk w O k ys hd)(hv:hdr hd v):ym w O k ys v:=by
 cases hd with
 |none=>
  simp only[rowOk]at h;simp only[hdr]at hv;subst h;obtain⟨a,rfl⟩:=hv;exact⟨a,0,[],rfl,by simp[je],(λv h=>by cases h),by simp,Or.inl rfl⟩
 |blk b cap n=>
  obtain⟨rfl,q1,q2,q3,c,T,q4,q5,q7,q6⟩:=h;simp only[hdr]at hv;exact⟨_,cap,_,hv,q6,q7,q3,Or.inr ⟨b,0,rfl,(Reads.block q4).take _⟩⟩
 |tre=>exact h.elim
 |mp=>exact h.elim
theorem jcG{w:World}{O:Nat->Prop}{k:Nat}{v:Value}(h:∃a,v = .slice a 0 0):ym w O k [] v:=by
 obtain⟨a,rfl⟩:=h;exact⟨a,0,[],rfl,by simp[je],(λv h=>by cases h),by simp,Or.inl rfl⟩
theorem yt(P:Program){w:World}{O:Nat->Prop}{t ty e:TypeId}{i:TI}(ht:P.underlying t=some (.slice e))(hi:TI.ok P e i)
    {xs ys:Xc} {hd:Hd} {v u:Value} (hv:hdr hd v) (hrow:rowOk w O i.size xs hd) (hsrc:ym w O i.size ys u)
    (hfit:(xs.length+ys.length)*i.bytes<=140737488355328) (h63:xs.length+ys.length<=9223372036854775807) :
    ∃v' w',(Builtin.append_ #[t,t] ty #[v,u]).run P w = .ok v' w'/\
      ((ys=[]/\w'=w/\v'=v)\/
       (∃b cap n cs T,hd = .blk b cap n/\v' = .slice (some ⟨b,0,none⟩) (xs.length+ys.length) cap/\xs.length+ys.length<=cap/\cap<=9223372036854775807/\(w'.os=w.os/\w'.tape=w.tape/\Quiet w w'/\w'.heap.size=w.heap.size/\ ∀b',b'≠b->w'.heap[b']? = w.heap[b']?)/\
          w'.heap[b]? = some (.cells cs T (0,0))/\cs.size=cap*i.size/\jd (cs.toList.take ((xs.length+ys.length)*i.size))/\je w O (xs++ys).flatten (cs.toList.take ((xs.length+ys.length)*i.size)))\/
       (∃cap cs T,v' = .slice (some ⟨w.heap.size,0,none⟩) (xs.length+ys.length) cap/\xs.length+ys.length<=cap/\cap<=9223372036854775807/\Below w.heap.size w w'/\w.heap.size<w'.heap.size/\
          w'.heap[w.heap.size]? = some (.cells cs T (0,0))/\cs.size=cap*i.size/\jd (cs.toList.take ((xs.length+ys.length)*i.size))/\je w O (xs++ys).flatten (cs.toList.take ((xs.length+ys.length)*i.size)))):=by
  obtain⟨ad,c,news,rfl,hnews,hok',hyk,hsrc⟩:=hsrc;obtain⟨j,hj,j1,j2,j3⟩:=hi.some_info;have hnl:news.length=ys.length*i.size:=by rw[jh hnews,jJ hyk]
  have hv2:∃base cap,v = .slice base xs.length cap/\xs.length<=cap/\((hd = .none/\cap=0)\/ ∃b n,hd = .blk b cap n/\base=some ⟨b,0,none⟩):=by
    cases hd with
    |none=>simp only[hdr]at hv;obtain⟨a,rfl⟩:=hv;simp only[rowOk]at hrow;subst hrow;exact⟨a,0,rfl,by simp,Or.inl ⟨rfl,rfl⟩⟩
    |blk b cap n=>simp only[hdr]at hv;obtain⟨rfl,q,_⟩:=hrow;exact⟨_,cap,hv,q,Or.inr ⟨b,_,rfl,rfl⟩⟩
    |tre=>exact hrow.elim
    |mp=>exact hrow.elim
  obtain⟨base,cap,rfl,hcap,hhd⟩:=hv2;by_cases hy0:ys=[]
  . subst hy0
    refine⟨.slice base xs.length cap,w,?_,Or.inl ⟨rfl,rfl,rfl⟩⟩;have hf:(Builtin.firstCells i.size 0 (.slice ad 0 c)).run P w = .ok #[] w:=by
      cases ad<;>simp[Builtin.firstCells,loadCells,loadCellsFrom]
    cases base<;>simp[Builtin.append_,jaz ht,sizeOf,typeInfo,hj,j1,Builtin.lenOf,hcap,hf,storeCells]
  . obtain⟨b2,off2,rfl,hreads⟩:=hsrc.resolve_left hy0
    have hypos:0<ys.length:=List.length_pos_iff.2 hy0;have hn1:∀jj u,news[jj]? = some u->w.cell? ((⟨b2,off2,none⟩:Addr).add jj)=some u:=λjj u hu=>by rw[kh];exact hreads jj u hu
    by_cases hroom:xs.length+ys.length<=cap
    .
      rcases hhd with⟨_,rfl⟩|⟨b,n,rfl,rfl⟩
      . omega
      obtain⟨_,q1,q2,q3,cc,T,q4,q5,q7,q6⟩:=hrow;have hf:=jfT (P:=P) w i.size ys.length ⟨b2,off2,none⟩ ys.length c news hnl hn1;have hsum:(xs.length+ys.length)*i.size<=cap*i.size:=jeS _ hroom;have hadd:(xs.length+ys.length)*i.size=xs.length*i.size+ys.length*i.size:=jb5 _ _ _;obtain⟨W,hst,w1,w2,w3,w4,w5,w6⟩:=kQ P q4 (xs.length*i.size) news (by rw[hnl];omega) hok';have hl2:cc.toList.length=cap*i.size:=by simp[q5]
      have e:((over cc.toList (xs.length*i.size) news).toArray.toList.take ((xs.length+ys.length)*i.size))=cc.toList.take (xs.length*i.size)++news:=by
        have hl1:(cc.toList.take (xs.length*i.size)).length=xs.length*i.size:=by simp;omega
        unfold over;rw[jf5 (by simp[hnl];omega),jfU (by simp[hnl];omega)]
      refine⟨.slice (some ⟨b,0,none⟩) (xs.length+ys.length) cap,W,?_,Or.inr (Or.inl ⟨b,cap,n,_,T,rfl,rfl,hroom,q2,⟨w1,w2,w3,w4,w5⟩,w6,?_,?_,?_⟩)⟩
      . have hadd2:(⟨b,0,none⟩:Addr).add (xs.length*i.size)=⟨b,xs.length*i.size,none⟩:=by rw[kh];simp
        have hf':(Builtin.firstCells j.size ys.length (.slice (some ⟨b2,off2,none⟩) ys.length c)).run P w = .ok news.toArray w:=by rw[j1];exact hf
        have hst':(storeCells ((⟨b,0,none⟩:Addr).add (xs.length*j.size)) news).run P w = .ok () W:=by rw[j1,hadd2];exact hst
        simp[Builtin.append_,jaz ht,sizeOf,typeInfo,hj,Builtin.lenOf,hroom,hf',hst']
      . rw[jfF,jD (by rw[hnl,hl2];omega),hl2]
      . rw[e];exact(q7.append hok')
      . have hfl:(xs++ys).flatten=xs.flatten++ys.flatten:=by simp
        rw[hfl,e];exact jA q6 hnews
    .
      have hlt:cap<xs.length+ys.length:=by omega
      have hgf:=growslice_fits (bytes:=i.bytes) hlt hfit;have hgc:=grownCap_ge w (xs.length+ys.length) cap e;have hgm:=grownCap_le_maxLen w (xs.length+ys.length) cap e (by simpa[maxLen]using h63);have holds:∃olds:Xh,je w O xs.flatten olds/\jd olds/\olds.length=xs.length*i.size/\(Builtin.firstCells j.size xs.length (.slice base xs.length cap)).run P w.drew = .ok olds.toArray w.drew:=by
        rcases hhd with⟨rfl,rfl⟩|⟨b,n,rfl,rfl⟩
        . simp only[rowOk]at hrow
          subst hrow;refine⟨[],by simp[je],(λv h=>by cases h),by simp,?_⟩;cases base<;>simp[Builtin.firstCells,loadCells,loadCellsFrom]
        . obtain⟨_,q1,q2,q3,cc,T,q4,q5,q7,q6⟩:=hrow
          have hl1:(cc.toList.take (xs.length*i.size)).length=xs.length*i.size:=by rw[jh q6,jJ q3]
          refine⟨_,q6,q7,hl1,?_⟩;rw[j1];refine jfT (P:=P) w.drew i.size xs.length ⟨b,0,none⟩ xs.length cap _ hl1 ?_;intro jj u hu;rw[kh];have:=((Reads.block q4).take (xs.length*i.size)) jj u hu;simpa using this
      obtain⟨olds,ho1,ho4,ho2,ho3⟩:=holds;have hf':(Builtin.firstCells j.size ys.length (.slice (some ⟨b2,off2,none⟩) ys.length c)).run P w.drew = .ok news.toArray w.drew:=by
        rw[j1];exact jfT (P:=P) w.drew i.size ys.length ⟨b2,off2,none⟩ ys.length c news hnl (by simpa using hn1)
      have n1:¬(xs.length+ys.length<=cap):=hroom;have n2:¬(9223372036854775807<((xs.length:Int)+(ys.length:Int))):=by omega
      have n3:¬(281474976710656<Builtin.nextslicecap (xs.length+ys.length) cap*j.bytes):=by rw[j2];omega
      have e2:((olds.toArray++news.toArray++Builtin.zeroCells i.zero.cells (grownCap w (xs.length+ys.length) cap e-(xs.length+ys.length))).toList.take ((xs.length+ys.length)*i.size))=olds++news:=by
        simp only[Array.toList_append];rw[jf5 (by simp[ho2,hnl,jb5]),jfU (by simp[ho2,hnl,jb5])]
      refine⟨.slice (some ⟨w.heap.size,0,none⟩) (xs.length+ys.length) (grownCap w (xs.length+ys.length) cap e),w.drew.alloc (.cells (olds.toArray++news.toArray++Builtin.zeroCells i.zero.cells (grownCap w (xs.length+ys.length) cap e-(xs.length+ys.length))) e),
        ?_,Or.inr (Or.inr ⟨_,olds.toArray++news.toArray++Builtin.zeroCells i.zero.cells (grownCap w (xs.length+ys.length) cap e-(xs.length+ys.length)),e,rfl,hgc,by simpa[maxLen]using hgm,?_,?_,?_,?_,?_,?_⟩)⟩
      . simp[Builtin.append_,jaz ht,sizeOf,typeInfo,zeroValue,hj,j3,Builtin.lenOf,n1,n2,n3,Question.forced,ho3,hf',newRow,grownCap]
        congr 2;rw[<-Array.append_assoc];simp
      . exact((Below.refl _ w).drew).alloc (by simp) _
      . show w.heap.size<(w.drew.alloc _).heap.size
        rw[jR];simp
      . exact heap_alloc_new w.drew _
      . simp only[Array.size_append,jfF,Builtin.zeroCells,Array.size_map,Array.size_range,hi.zsize,ho2,hnl]
        rw[<-jb5,<-jb5];congr 1;omega
      . rw[e2];exact ho4.append hok'
      . have hfl:(xs++ys).flatten=xs.flatten++ys.flatten:=by simp
        rw[hfl,e2];exact jA ho1 hnews
theorem jL{ev:Operand->Value}{s x:Operand}{xs:Array Operand}{ts:Array TypeId}(ho:o.op = .call { callee:= .builtin .append,args:=xs,argTypes:=ts })(hxs:xs = #[s,x]){w w':World}{v:Value}
  (h:(Builtin.append_ ts o.type #[ev s,ev x]).run P w = .ok v w'):(execOp ev o).run P w = .ok (.value v) w':=by
 subst hxs;simp[execOp,ho,resolve,invoke,builtin,h]
theorem jl.append0{s x:Operand}{xs:Array Operand}{ts:Array TypeId}{t:TypeId}(ho:o.op = .call { callee:= .builtin .append,args:=xs,argTypes:=ts })(hxs:xs = #[s,x])(hts:ts = #[t,t])
  {e:Nat} (ht:P.underlying t=some (.slice e)) {i:TI} (hi:TI.ok P e i) {ys:Xc} {k0:Nat} (hs:ρ s = .nil k0) {rds:Xm} {nid:Nat}
  (hx:∀(w:World)(O0:Nat->Prop)(m:jq)(st:jb)(u:Value),Sto X w O0 m st->(∀r∈rds,jC st r)->relV w (Ow O0 m st) m (ρ x) u->ym w (Ow O0 m st) i.size ys u)
  (hfit:ys.length*i.bytes<=140737488355328) (h63:ys.length<=9223372036854775807):jl P X o ρ ⟨.row nid,.fresh nid::rds,[.obj nid (.row i.size ys)]⟩:=by
 intro w O0 m st ev hst hg hr _hc;have hs':=hr s (by simp[ho,Op.operands,Call.operands,hxs]);have hx':=hx w O0 m st _ hst (λr h=>hg r (by simp[h])) (hr x (by simp[ho,Op.operands,Call.operands,hxs]));rw[hs]at hs';simp only[relV]at hs';obtain⟨v',w',a1,a2⟩:=yt P (ty:=o.type) (xs:=[]) (hd:= .none) ht hi (by simpa only[hdr]using hs') (by simp[rowOk]) hx' (by simpa using hfit) (by simpa using h63);have hrun:=jL (P:=P) (ev:=ev) ho hxs (by rw[hts];exact a1);rw[hrun];have hf:st nid = .dead:=hg (.fresh nid) (by simp);simp only[jfJ,je8,jfw]at a2;rcases a2 with⟨rfl,rfl,rfl⟩|⟨b,cap,n,cs,T,r1,_⟩|⟨cap,cs,T,rfl,r3,r4,r5,r6,r7,r8,r10,r9⟩
 .obtain ⟨a,hv⟩:=hs';exact j4 hst (Below.refl _ _) hf (hd:= .none) ⟨a,hv⟩ (Or.inl ⟨rfl,rfl⟩)
 .cases r1
 .obtain ⟨_,_,_,_,_,_,hyk,_⟩:=hx';exact j4 hst r5 hf (hd:= .blk w.heap.size cap ys.length) rfl (Or.inr ⟨cap,cs,T,rfl,r6,r3,r4,hyk,r7,r8,r10,r9⟩)
theorem JD{w:World}{O0:Nat->Prop}{m:jq}{st:jb}(hs:Sto X w O0 m st){id k:Nat}{xs:Xc}(hf:st id = .row k xs){u:Value}(hr:relV w (Ow O0 m st) m (.row id) u):∃hd,m id=some hd/\hdr hd u/\rowOk w (Ow O0 m st) k xs hd:=by
 simp only[relV]at hr;obtain⟨hd,h1,h2⟩:=hr;have ho:=hs.obj id;rw[hf]at ho;obtain⟨hd',g1,g2⟩:=ho;rw[h1]at g1;cases g1;exact⟨_,h1,h2,g2⟩
theorem jl.append{s x:Operand}{xs:Array Operand}{ts:Array TypeId}{t:TypeId}(ho:o.op = .call { callee:= .builtin .append,args:=xs,argTypes:=ts })(hxs:xs = #[s,x])(hts:ts = #[t,t])
  {e:Nat} (ht:P.underlying t=some (.slice e)) {i:TI} (hi:TI.ok P e i) {us ys:Xc} {id:Nat} (hs:ρ s = .row id) {rds:Xm} {nid:Nat} (hne:nid≠id)
  (hx:∀(w:World)(O0:Nat->Prop)(m:jq)(st:jb)(u:Value),Sto X w O0 m st->(∀r∈rds,jC st r)->relV w (Ow O0 m st) m (ρ x) u->ym w (Ow O0 m st) i.size ys u)
  (hfit:(us.length+ys.length)*i.bytes<=140737488355328) (h63:us.length+ys.length<=9223372036854775807):jl P X o ρ ⟨.row nid,.fresh nid:: .obj id (.row i.size us)::rds,[.obj id .gone,.obj nid (.row i.size (us++ys))]⟩:=by
 intro w O0 m st ev hst hg hr _hc;have hs':=hr s (by simp[ho,Op.operands,Call.operands,hxs]);have hx':=hx w O0 m st _ hst (λr h=>hg r (by simp[h])) (hr x (by simp[ho,Op.operands,Call.operands,hxs]));rw[hs]at hs';have hid:st id = .row i.size us:=hg (.obj id (.row i.size us)) (by simp);have hf:st nid = .dead:=hg (.fresh nid) (by simp);obtain⟨hd,g1,g2,g3⟩:=JD hst hid hs';obtain⟨v',w',a1,a2⟩:=yt P (ty:=o.type) ht hi g2 g3 hx' hfit h63;have hrun:=jL (P:=P) (ev:=ev) ho hxs (by rw[hts];exact a1);rw[hrun];have hmn:=hst.fresh nid hf;have hyk:∀y∈ys,y.length=i.size:=by obtain⟨_,_,_,_,_,_,h,_⟩:=hx';exact h
 have hxk:∀y∈us,y.length=i.size:=by
  cases hd with
  |none=>simp only[rowOk]at g3;subst g3;simp
  |blk b c n=>exact g3.2.2.2.1
  |tre=>exact g3.elim
  |mp=>exact g3.elim
 have hk:∀z∈us++ys,z.length=i.size:=λz hz=>(jeO.1 hz).elim (hxk z) (hyk z);have stay:∀(W:World)(hd':Hd),(∀b∈hd'.blocks,b∈hd.blocks)->W.os=w.os->W.tape=w.tape->Quiet w W->W.heap.size=w.heap.size->(∀b',b' ∉ hd.blocks->W.heap[b']? = w.heap[b']?)->
   (MonoW w (Ow O0 m st) W (Ow O0 (upd m nid (some hd')) (upd (upd st id .gone) nid (.row i.size (us++ys))))->rowOk W (Ow O0 (upd m nid (some hd')) (upd (upd st id .gone) nid (.row i.size (us++ys)))) i.size (us++ys) hd')->hdr hd' v'->
   ko X w O0 m st [.obj id .gone,.obj nid (.row i.size (us++ys))] (.row nid) W v':=by
  intro W hd' hsame w1 w2 w3 w4 w5 hok hv;have hal:(st id).alive=true:=by rw[hid];rfl
  have hst':∀j,upd (upd st id .gone) nid (.row i.size (us++ys)) j=if j=nid then .row i.size (us++ys)else if j=id then .gone else st j:=λj=>by
   by_cases e1:j=nid
   .subst e1;rw[jc,jbZ rfl]
   .rw [upd_ne _ _ e1,ja0 e1];by_cases e2:j=id
    .subst e2;rw[jc,jbZ rfl]
    .rw [upd_ne _ _ e2,ja0 e2]
  have hm':∀j,upd m nid (some hd') j=if j=nid then some hd' else m j:=λj=>by
   by_cases e1:j=nid
   .subst e1;rw[jc,jbZ rfl]
   .rw [upd_ne _ _ e1,ja0 e1]
  have hnew:∀b',Mz (upd m nid (some hd')) (upd (upd st id .gone) nid (.row i.size (us++ys))) b'->Mz m st b':=by
   rintro b' ⟨j,hj,h1,h2,h3⟩;rw[hst']at h1;rw[hm']at h2;by_cases e1:j=nid
   .rw [jbZ e1]at h2;cases h2;exact⟨id,hd,hal,g1,hsame b' h3⟩
   .rw [ja0 e1]at h1 h2;by_cases e2:j=id
    .rw [jbZ e2]at h1;cases h1
    .rw [ja0 e2]at h1;exact⟨j,hj,h1,h2,h3⟩
  have hchg:Chg w m st W (upd m nid (some hd')) (upd (upd st id .gone) nid (.row i.size (us++ys))):=
   ⟨w1,w2,w3,by omega,λb' _ hn=>w5 b' λe=>hn ⟨id,hd,hal,g1,e⟩,yp.of λj h e=>by
    rw[hm',ja0 (λe'=>by subst e';rw[hmn]at e;cases e)];exact e,λb' h=>Or.inl (hnew b' h)⟩
  suffices hsto:Sto X W O0 (upd m nid (some hd')) (upd (upd st id .gone) nid (.row i.size (us++ys))) from
   ⟨upd m nid (some hd'),hchg,hsto,by simp only[relV];exact⟨_,jc _ _ _,hv⟩⟩
  refine hst.chg hchg ?_ ?_ ?_ ?_
  .intro j h;rw[hst']at h;rw[hm'];by_cases e1:j=nid
   .rw [jbZ e1]at h;cases h
   .rw [ja0 e1]at h⊢;by_cases e2:j=id
    .rw [jbZ e2]at h;cases h
    .rw [ja0 e2]at h;exact hst.fresh j h
  .intro j hj b' h1 h2 h3;rw[hst']at h1;rw[hm']at h2;by_cases e1:j=nid
   .rw [jbZ e1]at h2;cases h2;have:=hst.blk id hd b' hal g1 (hsame b' h3);exact Or.inr ⟨by omega,this.2⟩
   .rw [ja0 e1]at h1 h2;by_cases e2:j=id
    .rw [jbZ e2]at h1;cases h1
    .rw [ja0 e2]at h1;exact Or.inl ⟨h1,h2⟩
  .intro j j' hj hj' b' h1 h2 h3 h4 h5 h6;rw[hst']at h1 h2;rw[hm']at h3 h4;by_cases e1:j=nid
   .by_cases e2:j'=nid
    .rw [e1,e2]
    .rw [jbZ e1]at h3;cases h3;rw[ja0 e2]at h2 h4;by_cases e3:j'=id
     .rw [jbZ e3]at h2;cases h2
     .rw [ja0 e3]at h2;exact absurd (hst.inj id j' hd hj' b' hal h2 g1 h4 (hsame b' h5) h6).symm e3
   .rw [ja0 e1]at h1 h3;by_cases e3:j=id
    .rw [jbZ e3]at h1;cases h1
    .rw [ja0 e3]at h1;by_cases e2:j'=nid
     .rw [jbZ e2]at h4;cases h4;exact absurd (hst.inj id j hd hj b' hal h1 g1 h3 (hsame b' h6) h5).symm e3
     .rw [ja0 e2]at h2 h4;by_cases e4:j'=id
      .rw [jbZ e4]at h2;cases h2
      .rw [ja0 e4]at h2;exact hst.inj j j' hj hj' b' h1 h2 h3 h4 h5 h6
  .intro j;by_cases e1:j=nid
   .subst e1;rw[jc,jc];exact Or.inr ⟨hd',rfl,hok (hchg.monoW O0)⟩
   .rw [upd_ne _ _ e1,upd_ne _ _ e1];by_cases e2:j=id
    .subst e2;rw[jc];exact Or.inr trivial
    .rw [upd_ne _ _ e2];exact Or.inl ⟨rfl,rfl,λhj b' h1 h2 h3=>w5 b' λe'=>e2 (hst.inj j id hj hd b' h1 hal h2 g1 h3 e')⟩
 rcases a2 with⟨rfl,rfl,rfl⟩|⟨b,cap,n,cs,T,r1,r2,r3,r4,⟨w1,w2,w3,w4,w5⟩,r6,r7,r9,r8⟩|⟨cap,cs,T,rfl,r3,r4,r5,r6,r7,r8,r10,r9⟩
 .refine stay _ hd (λb e=>e) rfl rfl (Quiet.refl _) rfl (λ_ _=>rfl) (λhmono=>?_) g2;have:=zF hmono (λ_ _ _ _=>rfl) g3;simpa using this
 .subst r1;refine stay w' (.blk b cap (us.length+ys.length)) (λb' e=>by rw[zZ e];exact j8) w1 w2 w3 w4 (λb' hb'=>w5 b' λe=>hb' (by rw[e];exact j8)) (λhmono=>?_) r2;exact⟨by simp,by simpa using r3,r4,hk,cs,T,r6,r7,by simpa using r9,by simpa using jo hmono _ _ r8⟩
 .refine ko.after (ws:=[.obj id .gone]) (Chg.ghost λh=>by cases h) ?_;have hkill:Sto X w O0 m (ji st [.obj id .gone]):=hst.kill id;have hf':ji st [.obj id .gone] nid = .dead:=by
   show upd st id .gone nid=_;rw[upd_ne _ _ hne,hf]
  refine j4 hkill r5 hf' (hd:= .blk w.heap.size cap (us.length+ys.length)) rfl (Or.inr ⟨cap,cs,T,by simp,r6,by simpa using r3,r4,hk,r7,r8,by simpa using r10,?_⟩);have:=jo (MonoW.sub (O':=Ow O0 m (ji st [.obj id .gone])) (Jo λh=>by cases h)) _ _ r9;simpa using this
theorem jl.make{t:TypeId}{x y:Operand}(ho:o.op = .makeSlice t x y){e:Nat}(ht:P.underlying t=some (.slice e)){i:TI}(hi:TI.ok P e i){a b:A}(hx:ρ x = .d a)(hy:ρ y = .d b){kl kc:IntKind}{l c:Int}(ha:a = .val (.int kl l))(hb:b = .val (.int kc c))
  (h0:0<=l) (hlc:l<=c) (hbytes:(i.bytes:Int)*c<=281474976710656) (h63:c<=9223372036854775807) {z:Xd} (hz:∀w O,je w O z i.zero.cells.toList) (hone:jd i.zero.cells.toList) {nid:Nat} :
  jl P X o ρ ⟨.row nid,[.fresh nid],[.obj nid (.row i.size (List.replicate l.toNat z))]⟩:=by
 intro w O0 m st ev hst hg hr _hc;have hx':=hr x (by simp[ho,Op.operands]);have hy':=hr y (by simp[ho,Op.operands]);rw[hx,ha]at hx';rw[hy,hb]at hy';simp only[relV,rel]at hx' hy';obtain⟨j,hj,j1,j2,j3⟩:=hi.some_info;have hrun:=run_make (P:=P) w t e j i.zero ht hj j3 kl kc l c h0 hlc (by rw[j2];exact hbytes) h63;have hzl:i.zero.cells.toList.length=i.size:=by simpa using hi.zsize
 have hzl2:z.length=i.size:=by rw[<-jh (hz w λ_=>False)];exact hzl
 have key:∀(n cn:Nat),n<=cn->((madeCells i.zero.cells (cn*i.size)).toList.take (n*i.size))=(List.replicate n i.zero.cells.toList).flatten:=by
  intro n cn hn;apply je9;intro q;by_cases hq:q<n*i.size
  .have hpos:0<i.size:=jf3 λe0=>by rw[e0]at hq;simp at hq
   have h1:(List.replicate n i.zero.cells.toList).flatten[q]? = i.zero.cells.toList[q % i.size]? :=by
    clear hn;induction n generalizing q with
    |zero=>simp at hq
    |succ n ih=>
     rw[jeZ,jdT];by_cases hq2:q<i.size
     .rw [jep (by omega),Nat.mod_eq_of_lt hq2]
     .have hq3:q-i.size<n*i.size:=by
       rw[jb5,jfO]at hq;omega
      have hm2:=Nat.mod_eq_sub_mod (a:=q) (b:=i.size) (by omega);rw[jeU (by omega),hzl,ih (q-i.size) hq3,<-hm2]
   rw[h1,jff,jbZ hq];have hlt:q<cn*i.size:=jfj hq (jeS _ hn);have hm:q % i.size<i.zero.cells.size:=by rw[hi.zsize];exact Nat.mod_lt _ hpos
   simp only[madeCells,jfo,Array.getElem?_map,Array.getElem?_range,hlt,jer,jen,hi.zsize];rw[jfm i.zero.cells (q % i.size) hm,jfh hm]
  .rw [jdS (by simp;omega),jdS]
   simp only[List.length_flatten,List.map_replicate,hzl,jfS];omega
 have hrepl:∀n,je w (Ow O0 m st) (List.replicate n z).flatten (List.replicate n i.zero.cells.toList).flatten:=by
  intro n;induction n with
  |zero=>simp[je]
  |succ n ih=>simp only[jeZ,jdT];exact jA (hz _ _) ih
 have hones:∀n,jd (List.replicate n i.zero.cells.toList).flatten:=λn v hv=>by
  obtain⟨q,hq,hv⟩:=jfD.1 hv;rw[(jfG.1 hq).2]at hv;exact hone v hv
 have hf:st nid = .dead:=hg (.fresh nid) (by simp);have hex:(execOp ev o).run P w = .ok (.value (.slice (some ⟨w.heap.size,0,none⟩) l.toNat c.toNat)) (w.alloc (.cells (madeCells i.zero.cells (c.toNat*j.size)) e)):=by
  simp[execOp,ho,hx',hy',hrun]
 rw[hex];refine j4 hst (jX w _) hf (hd:= .blk w.heap.size c.toNat (List.replicate l.toNat z).length) (by simp[hdr]) (Or.inr ⟨c.toNat,_,e,rfl,by rw[jR];omega,by simp;omega,by omega,λq hq=>by rw[(jfG.1 hq).2];exact hzl2,heap_alloc_new w _,by rw[size_madeCells,j1],?_,?_⟩)
 .rw [jfA,j1,key _ _ (by omega)];exact hones _
 .rw [jfA,j1,key _ _ (by omega)];exact hrepl _
end
end
noncomputable section
inductive LX where
 |fail
 |ret (v:V) (rds:Xm) (wrs:Xn)
 |bnd (x:Xl) (k:A->LX)
 |nat (x:Option Nat) (k:Nat->LX)
 |rows (x:Option Xc) (k:Xc->LX)
 |cells (x:Option Xd) (k:Xd->LX)
 |chk (b:Bool) (k:LX)
 |node (x:Node) (k:Out->LX)
 |cnd (a:A) (x y:LX)
def brn{α:Type}(b:Bool)(x y:α):α:=if b then x else y
def LX.run(M:Node->Xe):LX->(V->Xm->Xn->Xe)->Xe
 |.fail,_=>none
 |.ret v rds wrs,κ=>κ v rds wrs
 |.bnd x k,κ=>x.bind λa=>(k a).run M κ
 |.nat x k,κ=>x.bind λa=>(k a).run M κ
 |.rows x k,κ=>x.bind λa=>(k a).run M κ
 |.cells x k,κ=>x.bind λa=>(k a).run M κ
 |.chk b k,κ=>brn b (k.run M κ) none
 |.node x k,κ=>(M x).bind λa=>(k a).run M κ
 |.cnd a x y,κ=>(qf a).bind λt=>brn t (x.run M κ) (y.run M κ)
def jB(P:Program)(X:Ctx)(M:Node->Xe)(o:Oper)(ρ:Operand->V)(st:jb):LX->Prop
 |.fail=>True
 |.ret v rds wrs=>jl P X o ρ ⟨v,rds,wrs⟩/\ ∀r∈rds,jC st r
 |.bnd x k=>∀a,x=some a->jB P X M o ρ st (k a)
 |.nat x k=>∀a,x=some a->jB P X M o ρ st (k a)
 |.rows x k=>∀a,x=some a->jB P X M o ρ st (k a)
 |.cells x k=>∀a,x=some a->jB P X M o ρ st (k a)
 |.chk b k=>b=true->jB P X M o ρ st k
 |.node x k=>∀out,M x=some out->jB P X M o ρ st (k out)
 |.cnd a x y=>(qf a=some true->jB P X M o ρ st x)/\(qf a=some false->jB P X M o ρ st y)
def zw:Xj->LX->LX
 | [],k=>k
 |.d a::cs,k=>.chk (Ka a) (zw cs k)
 |.agg _::_,_=>.fail
 |.tup _::_,_=>.fail
 |.top::_,_=>.fail
 |_::cs,k=>zw cs k
def jbz(n:Nat)(a:A):Option Xd:=match a with|.agg ds=>if ds.length=n/\ds.all Ka=true then some ds else none|_=>none
def YR:V->Bool|.agg _=>false|.tup _=>false|.top=>false|_=>true
def qL(ds:Xd)(j:Nat):A:=ds.getD j .top
def yu(plain:Bool)(n:Nat)(v:V)(k:Xj->LX):LX:=
 if plain then(if YR v then zw [v] (k [v])else .fail)
 else(match v with
  |.agg cs=>if Nat.beq cs.length n then zw cs (k cs)else .fail
  |.d a=>.cells (jbz n a) λds=>k ((List.range n).map λj=>.d (qL ds j))
  |_=>.fail)
def yR(v:V)(ds:Xj):Prop:=∀(w:World)(O:Nat->Prop)(m:jq)(u:Value),relV w O m v u->ja w O m ds u.cells.toList/\jd u.cells.toList
def Zf(ds:Xj):Prop:=∀c∈ds,∀a,c = .d a->Ka a=true
section
variable{P:Program}{X:Ctx}{o:Oper}{ρ:Operand->V}{C:Cfg}{M:Node->Xe}{st:jb}
theorem kW{k:LX} :∀{cs:Xj},((∀c∈cs,YR c=true)->Zf cs->jB P X M o ρ st k)->jB P X M o ρ st (zw cs k)
 | [],h=>h (by simp) (λc hc=>by cases hc)
 |c::cs,h=>by
  cases c<;>simp only[zw]
  case agg=>trivial
  case tup=>trivial
  case top=>trivial
  case d a=>
   intro ha;refine kW λh1 h2=>h (λc hc=>?_) (λc hc a' e=>?_)
   .rcases ja1.1 hc with rfl|hc
    .rfl
    .exact h1 c hc
   .rcases ja1.1 hc with rfl|hc
    .cases e;exact ha
    .exact h2 c hc a' e
  all_goals
   refine kW λh1 h2=>h (λc hc=>?_) (λc hc a' e=>?_)
   .rcases ja1.1 hc with rfl|hc
    .rfl
    .exact h1 c hc
   .rcases ja1.1 hc with rfl|hc
    .cases e
    .exact h2 c hc a' e
theorem Qa{w:World}{O:Nat->Prop}{m:jq}{v:V}{u:Value}(h:relV w O m v u)(hr:YR v=true)(hd:∀a,v = .d a->Ka a=true):u.oneCell'=true:=by
 cases v<;>simp only[YR,jfB]at hr<;>simp only[relV]at h
 case d a=>exact zK h (hd a rfl)
 case nil=>obtain⟨a,rfl⟩:=h;rfl
 case fn=>obtain⟨vs,rfl,_⟩:=h;rfl
 case ptr=>obtain⟨b,c,n,_,rfl⟩:=h;rfl
 case row=>
  obtain⟨hd,_,h2⟩:=h;cases hd with
  |none=>obtain⟨a,rfl⟩:=h2;rfl
  |blk b c n=>simp only[hdr]at h2;subst h2;rfl
  |tre f b c n ks=>simp only[hdr]at h2;subst h2;rfl
  |mp b=>simp only[hdr]at h2;subst h2;rfl
 case sub=>
  obtain⟨hd,_,h2⟩:=h;obtain⟨a,n,c,rfl⟩:=Q0 h2;rfl
 case rptr=>obtain⟨b,c,n,_,rfl⟩:=h;rfl
 case win=>
  obtain⟨hd,_,h⟩:=h;cases hd with
  |none=>simp only[km]at h;obtain⟨_,_,a,rfl⟩:=h;rfl
  |blk b c l=>simp only[km]at h;obtain⟨_,q,rfl,_⟩:=h;rfl
  |tre=>exact h.elim
  |mp=>exact h.elim
 case ub=>obtain⟨b,rfl,_⟩:=h;rfl
theorem ye{w:World}{O:Nat->Prop}{m:jq} :∀{cs:Xj}{us:Xh},ja w O m cs us->(∀c∈cs,YR c=true)->Zf cs->jd us
 | [],us,h,_,_=>by simp only[ja]at h;subst h;intro v hv;cases hv
 |c::cs,us,h,h1,h2=>by
  simp only[ja]at h;obtain⟨v,r,rfl,g1,g2⟩:=h;intro y hy;rcases ja1.1 hy with rfl|hy
  .exact Qa g1 (h1 c (by simp)) (h2 c (by simp))
  .exact ye g2 (λc hc=>h1 c (by simp[hc])) (λc hc=>h2 c (by simp[hc])) y hy
theorem zq{plain:Bool}{n:Nat}{v:V}{k:Xj->LX}(h:∀ds,yR v ds->Zf ds->ds.length=(if plain then 1 else n)->jB P X M o ρ st (k ds)):jB P X M o ρ st (yu plain n v k):=by
 unfold yu;split
 .rename_i hp;split
  .rename_i hr;refine kW λh1 h2=>h [v] (λw O m u hu=>?_) h2 (by simp[hp]);have ho:=Qa hu hr (h2 v (by simp));have hc:=cells_one ho;rw[hc];refine⟨?_,λy hy=>?_⟩
   .simp only[ja];exact⟨u,[],rfl,hu,rfl⟩
   .have:y=u:=by simpa using hy
    subst this;exact ho
  .trivial
 .rename_i hp;split
  .rename_i cs;split
   .rename_i hn;refine kW λh1 h2=>h cs (λw O m u hu=>?_) h2 (by simp[hp,jah hn]);simp only[relV]at hu;obtain⟨vs,rfl,g⟩:=hu;have g':ja w O m cs (Value.agg vs.toArray).cells.toList:=by simpa[Value.cells]using g
    exact⟨g',ye g' h1 h2⟩
   .trivial
  .rename_i a;intro ds hds;unfold jbz at hds;split at hds
   .rename_i ds';split at hds
    .rename_i hc;cases hds;obtain⟨hl,hok⟩:=hc;have e:(List.range n).map (λj=>V.d (ds.getD j .top))=ds.map V.d:=by
      apply je9;intro q;by_cases hq:q<n
      .have hq':q<ds.length:=by omega
       simp[jfr hq,hq',jcQ]
      .rw [jdS (by simp;omega),jdS (by simp;omega)]
     show jB P X M o ρ st (k ((List.range n).map λj=>V.d (ds.getD j .top)));rw[e];have hD:Zf (ds.map V.d):=λc hc a' e'=>by
      obtain⟨b,hb,rfl⟩:=jfx.1 hc;cases e';exact jfn.1 hok _ hb
     refine h _ (λw O m u hu=>?_) hD (by simp[hp,hl]);simp only[relV,rel]at hu;obtain⟨vs,rfl,g⟩:=hu;have g2:∀{ds:Xd}{vs:Xh},je w O ds vs->ja w O m (ds.map V.d) vs:=by
      intro ds;induction ds with
      |nil=>intro vs h;simpa[je,ja]using h
      |cons d ds ih=>
       intro vs h;simp only[je]at h;obtain⟨v,r,rfl,e1,e2⟩:=h;simp only[jd1,ja,relV];exact⟨v,r,rfl,e1,ih e2⟩
     have g':ja w O m (ds.map V.d) (Value.agg vs.toArray).cells.toList:=by simpa[Value.cells]using g2 g
     exact⟨g',ye g' (λc hc=>by obtain⟨b,_,rfl⟩:=jfx.1 hc;rfl) hD⟩
    .cases hds
   .cases hds
  .trivial
theorem jmB{st0:jb} :∀{cs:Xj}{as:Xd}{r:Xm}{ws:Xn},j6 st0 cs=some (as,r,ws)->Zf cs->as.all Ka=true/\as.length=cs.length
 | [],as,r,ws,h,_=>by simp only[j6,jb4,jem]at h;obtain⟨rfl,_⟩:=h;simp
 |c::cs,as,r,ws,h,hd=>by
  cases c<;>simp only[j6,reduceCtorEq]at h
  case d a=>
   split at h
   .rename_i h1;cases h;have:=jmB h1 λc hc=>hd c (by simp[hc]);exact⟨by simp only[jev,hd (.d a) (by simp) a rfl,this.1,Bool.and_self],by simp[this.2]⟩
   .cases h
  case nil k=>
   split at h
   .rename_i h1;cases h;have:=jmB h1 λc hc=>hd c (by simp[hc]);exact⟨by simp only[jev,Ka,this.1,Bool.and_self],by simp[this.2]⟩
   .cases h
  case row id=>
   split at h
   .rename_i h1;have:=jmB h1 λc hc=>hd c (by simp[hc]);split at h
    .cases h;exact⟨by simp only[jev,Ka,this.1,Bool.and_self],by simp[this.2]⟩
    .cases h;exact⟨by simp only[jev,Ka,this.1,Bool.and_self],by simp[this.2]⟩
    .cases h
   .cases h
theorem jcB{t:TypeId}{x:Operand}{ev:Operand->Value}(ho:o.op = .box t x)(w:World):(execOp ev o).run P w = .ok (.value (.pointer (some ⟨w.heap.size,0,none⟩))) (w.alloc (.cells (ev x).cells t)):=by
 simp[execOp,ho,Instr.box,newVar,newRow]
theorem jl.box{t:TypeId}{x:Operand}(ho:o.op = .box t x){v:V}(hv:∀(w:World)(O:Nat->Prop)(m:jq)(u:Value),relV w O m (ρ x) u->relV w O m v u){ds:Xj}(hc:yR v ds){nid:Nat} :jl P X o ρ ⟨.ptr nid 0,[.fresh nid],[.obj nid (.box ds)]⟩:=by
 intro w O0 m st ev hs hg hr _hc;obtain⟨h1,h2⟩:=hc _ _ _ _ (hv _ _ _ _ (hr x (by simp[ho,Op.operands])));rw[jcB ho];exact JY hs (jX w _) (by rw[jR];omega) (hg (.fresh nid) (by simp)) (heap_alloc_new w _) h2 h1
theorem jl.alloc{t:TypeId}(ho:o.op = .alloc t){i:TI}(hi:TI.ok P t i){ds:Xj}(hz:∀(w:World)(O:Nat->Prop)(m:jq),ja w O m ds i.zero.cells.toList)(hone:jd i.zero.cells.toList){nid:Nat} :
  jl P X o ρ ⟨.ptr nid 0,[.fresh nid],[.obj nid (.box ds)]⟩:=by
 intro w O0 m st ev hs hg hr _hc;have hrun:(execOp ev o).run P w = .ok (.value (.pointer (some ⟨w.heap.size,0,none⟩))) (w.alloc (.cells i.zero.cells t)):=by
  simp[execOp,ho,Instr.alloc,hi.run_zero w,newVar,newRow]
 rw[hrun];exact JY hs (jX w _) (by rw[jR];omega) (hg (.fresh nid) (by simp)) (heap_alloc_new w _) hone (hz _ _ _)
theorem jl.indexRow{t:TypeId}{x ix:Operand}(ho:o.op = .indexAddr t x ix){e:Nat}(ht:P.underlying t=some (.slice e)){i:TI}(hi:TI.ok P e i){id len n:Nat}{b:A}(hx:ρ x = .row id)(hn:dat (ρ ix)=some b)(h:pIx len b=some n) :
  jl P X o ρ ⟨.rptr id n i.size 0,[.len id i.size len],[]⟩:=by
 refine jl.same λw O0 m st ev hs hg hr=>?_;have hx':=hr x (by simp[ho,Op.operands]);have hn':=jm hn (hr ix (by simp[ho,Op.operands]));rw[hx]at hx';obtain⟨kk,z,rfl,h0,h2,rfl⟩:=Jc h;obtain⟨xs,g1,rfl⟩:=hg _ (jdC.2 rfl);obtain⟨hd,q1,q2,q3⟩:=JD hs g1 hx';simp only[rel]at hn';cases hd with
 |none=>simp only[rowOk]at q3;subst q3;simp at h2;omega
 |blk b c n=>
  obtain⟨rfl,_⟩:=q3;simp only[hdr]at q2;have hb:0<=z/\z<(xs.length:Int):=⟨h0,h2⟩;refine⟨.pointer (some ⟨b,z.toNat*i.size,none⟩),?_,?_⟩
  .simp only[execOp,ho,Instr.indexAt,q2,hn',asIntOf,jbY,jdA,jbW,jaz ht,hb,and_self,jer,hi.run_sizeOf w,kh,Sem.run_ite,je8]
  .simp only[relV];exact⟨_,b,q1,rfl,by simp⟩
 |tre=>exact q3.elim
 |mp=>exact q3.elim
theorem jl.sliceRow{t:TypeId}{x:Operand}{lo hi:Option Operand}(ho:o.op = .slice t x lo hi none){e:Nat}(ht:P.underlying t=some (.slice e)){i:TI}(hi':TI.ok P e i){id:Nat}{xs:Xc}(hx:ρ x = .row id)
  {alo ahi:Xl} (hlo:∀y,lo=some y-> ∃a,alo=some a/\dat (ρ y)=some a) (hlo0:lo=none->alo=none) (hhi:∀y,hi=some y-> ∃a,ahi=some a/\dat (ρ y)=some a) (hhi0:hi=none->ahi=none)
  {r:A} (h:Jy i.size (.sl i.size xs) alo ahi=some r):jl P X o ρ ⟨.d r,[.obj id (.row i.size xs)],[.obj id (.fro i.size xs)]⟩:=by
 intro w O0 m st ev hs hg hr _hc;have hid:st id = .row i.size xs:=hg _ (jdC.2 rfl);have hx':=hr x (by simp[ho,Op.operands]);rw[hx]at hx';have hs1:=hs.freeze hid;have hsub:∀b,Ow O0 m (upd st id (.fro i.size xs)) b->Ow O0 m st b:=Jo λh=>by cases h
 have hdata:rel w (Ow O0 m (upd st id (.fro i.size xs))) (.sl i.size xs) (ev x):=by
  refine kT hs1 (id:=id) (jc _ _ _) ?_;simp only[relV]at hx'⊢;exact hx'
 have hd:∀y,y∈o.op.operands-> ∀a,dat (ρ y)=some a->rel w (Ow O0 m (upd st id (.fro i.size xs))) a (ev y):=λy hy a ha=>js (MonoW.sub hsub) _ _ (jm ha (hr y hy));obtain⟨z,h1,h2⟩:=ZG (P:=P) (w:=w) (O:=Ow O0 m (upd st id (.fro i.size xs))) (ev:=ev) ho ht hi' hdata (alo:=alo) (ahi:=ahi)
  (λy hy=>by obtain⟨a,e1,e2⟩:=hlo y hy;exact⟨a,e1,hd y (by simp[ho,Op.operands,hy]) a e2⟩) hlo0 (λy hy=>by obtain⟨a,e1,e2⟩:=hhi y hy;exact⟨a,e1,hd y (by simp[ho,Op.operands,hy]) a e2⟩) hhi0 h
 rw[h1];exact⟨m,Chg.ghost λh=>(by cases h),hs1,by simp only[relV];exact h2⟩
end
end
noncomputable section
def yn(xs:Xc)(off:Nat)(ys:Xc):Xc:=over xs off ys
def jeX(xs:Xc)(off n:Nat):Xc:=(xs.drop off).take n
def jd6(xs:Xc)(off:Nat):Nat:=xs.length-off
def jaJ(xs:Xc):Nat:=xs.length
def jeW(ys:Xc)(n:Nat):A:=vi (Nat.min ys.length n)
def jd7(ys:Xc)(n:Nat):Xc:=ys.take n
def jcY(off n:Nat)(ys xs:Xc):Bool:=decide (off+n+ys.length<=xs.length)
def jcq(a b:Nat):Nat:=a+b
def jeQ(a b:Nat):Nat:=a-b
def pB(d top:Nat)(x:Xl):Option Nat:=
 match x with
 |none=>if d<=top then some d else none
 |some (.val (.int _ z))=>if 0<=z/\z<=(top:Int)then some z.toNat else none
 |_=>none
def pLo(top:Nat):Xl->Option Nat
 |none=>some 0
 |some a=>pB 0 top (some a)
theorem jbC(top:Nat)(x:Xl):pLo top x=pB 0 top x:=by cases x<;>simp[pLo,pB]
def nOf(a:A):Nat:=match a with|.val (.int _ z)=>z.toNat|_=>0
theorem jeP(n:Nat):nOf (nA n)=n:=rfl
structure WP where
 id:Nat
 k:Nat
 off:Nat
 n:Nat
 xs:Xc
def JJ(st:jb):V->Option WP
 |.row id=>(match st id with|.row k xs=>some ⟨id,k,0,jaJ xs,xs⟩|_=>none)
 |.win id k off n=>(match st id with|.row k' xs=>if Nat.beq k' k then some ⟨id,k',off,n,xs⟩else none|_=>none)
 |_=>none
def YQ(op:BinOp):Bool:=match op with|.neq=>true|_=>false
def jdh(op:BinOp):Bool:=match op with|.eql=>true|.neq=>true|_=>false
section
variable{P:Program}{X:Ctx}{o:Oper}{ρ:Operand->V}{C:Cfg}
theorem jcK{w:World}{O:Nat->Prop}{k:Nat}{xs:Xc}{hd:Hd}{v:Value}(h:rowOk w O k xs hd)(hv:hdr hd v):km k 0 xs.length hd v:=by
 cases hd with
 |tre=>exact h.elim
 |mp=>exact h.elim
 |none=>simp only[rowOk]at h;simp only[hdr]at hv;subst h;exact⟨rfl,rfl,hv⟩
 |blk b c l=>
  obtain⟨rfl,h1,_⟩:=h;simp only[hdr]at hv;exact⟨by omega,0,by simpa using hv,λ_=>by simp⟩
theorem ji9{st:jb}{v:V}{p:WP}(h:JJ st v=some p):st p.id = .row p.k p.xs/\
  ∀(w:World)(O0:Nat->Prop)(m:jq)(st':jb)(u:Value),Sto X w O0 m st'->jC st' (.len p.id p.k p.xs.length)->relV w (Ow O0 m st') m v u->
   ∃hd xs',m p.id=some hd/\st' p.id = .row p.k xs'/\xs'.length=p.xs.length/\km p.k p.off p.n hd u/\rowOk w (Ow O0 m st') p.k xs' hd:=by
 unfold JJ at h;split at h
 .rename_i id;split at h
  .rename_i k xs hst;cases h;refine⟨hst,λw O0 m st' u hs hg hr=>?_⟩;obtain⟨xs',g1,g2⟩:=hg;obtain⟨hd,q1,q2,q3⟩:=JD hs g1 hr;exact⟨hd,xs',q1,g1,g2,by show km k 0 xs.length hd u;rw[<-g2];exact jcK q3 q2,q3⟩
  .cases h
 .rename_i id k off n;split at h
  .rename_i k' xs hst;split at h
   .rename_i hk;have hk:=jah hk;subst hk;cases h;refine⟨hst,λw O0 m st' u hs hg hr=>?_⟩;obtain⟨xs',g1,g2⟩:=hg;simp only[relV]at hr;obtain⟨hd,q1,q2⟩:=hr;have ho:=hs.obj id;rw[g1]at ho;obtain⟨hd',e1,e2⟩:=ho;rw[q1]at e1;cases e1;exact⟨hd,xs',q1,g1,g2,q2,e2⟩
   .cases h
  .cases h
 .cases h
theorem jcH{w:World}{O:Nat->Prop}{k off n:Nat}{xs:Xc}{hd:Hd}{v:Value}(h:rowOk w O k xs hd)(hv:km k off n hd v):ym w O k ((xs.drop off).take n) v:=by
 cases hd with
 |tre=>exact h.elim
 |mp=>exact h.elim
 |none=>
  simp only[rowOk]at h;simp only[km]at hv;obtain⟨rfl,rfl,a,rfl⟩:=hv;subst h;exact⟨a,0,[],by simp,by simp[je],(λv h=>by cases h),by simp,Or.inl (by simp)⟩
 |blk b cap l=>
  obtain⟨rfl,h1,h2,h3,c,T,h4,h5,h6,h7⟩:=h;simp only[km]at hv;obtain⟨hl,q,rfl,hq⟩:=hv;have hlen:((xs.drop off).take n).length=n:=by simp;omega
  have hr:=j9 (w:=w) (O:=O) (b:=b) (off:=0) h3 h7 ((Reads.block h4).take _) h6;have hr:=zn n (zm off hr (by omega));obtain⟨vs,g1,g2,g4,g3⟩:=yb hr;refine⟨_,cap-off,vs,by rw[hlen],g1,g4,g3,?_⟩;by_cases hn:n=0
  .subst hn;left;simp
  .right;have hqe:=hq (by omega);subst hqe;exact⟨b,off*k,rfl,by simpa using g2⟩
theorem zi{α:Type}{k:Nat} :∀(xs:List (List α))(n:Nat),(∀y∈xs,y.length=k)->(xs.take n).flatten=xs.flatten.take (n*k)
 | [],n,_=>by simp
 |x::xs,0,_=>by simp
 |x::xs,n+1,h=>by
  have hx:=h x (by simp);rw[jfR,jdT,jdT,zi xs n λy hy=>h y (by simp[hy]),show(n+1)*k=x.length+n*k by rw[jb5];omega,List.take_length_add_append]
theorem qP{α:Type}{k:Nat} :∀(xs:List (List α))(n:Nat),(∀y∈xs,y.length=k)->(xs.drop n).flatten=xs.flatten.drop (n*k)
 | [],n,_=>by simp
 |x::xs,0,_=>by simp
 |x::xs,n+1,h=>by
  have hx:=h x (by simp);rw[List.drop_succ_cons,jdT,qP xs n λy hy=>h y (by simp[hy]),show(n+1)*k=x.length+n*k by rw[jb5];omega,List.drop_length_add_append]
theorem Z5{α:Type}{k:Nat}{xs ys:List (List α)}{off:Nat}(hx:∀y∈xs,y.length=k)(hy:∀y∈ys,y.length=k):(over xs off ys).flatten=over xs.flatten (off*k) ys.flatten:=by
 unfold over;rw[List.flatten_append,List.flatten_append,zi xs off hx,qP xs _ hx,jJ hy,jb5]
theorem Yo(P:Program){w:World}{O0:Nat->Prop}{m:jq}{st:jb}(hs:Sto X w O0 m st){id k b c l:Nat}{xs:Xc}(hid:st id = .row k xs)(hm:m id=some (.blk b c l)){ys:Xc}{us:Xh}
  (hu:je w (Ow O0 m st) ys.flatten us) (hone:jd us) (hk:∀y∈ys,y.length=k) {off:Nat} (hl:off+ys.length<=xs.length) :
  ∃W,(storeCells ⟨b,off*k,none⟩ us).run P w = .ok () W/\Chg w m st W m (upd st id (.row k (over xs off ys)))/\Sto X W O0 m (upd st id (.row k (over xs off ys))):=by
 have hob:=hs.obj id;rw[hid]at hob;obtain⟨hd,q1,q2⟩:=hob;rw[hm]at q1;cases q1;obtain⟨q0,q6,q7,q8,cc,T,q3,q9,q4,q5⟩:=q2;have l1:=jh hu;rw[jJ hk]at l1;have hfit:off*k+ys.length*k<=xs.length*k:=by rw[<-jb5];exact jeS k hl
 have hcap:xs.length*k<=cc.size:=by rw[q9];exact jeS k q6
 obtain⟨W,hst,w1,w2,w3,w4,w5,w6⟩:=kQ P q3 (off*k) us (by rw[l1];omega) hone
 have hal:(st id).alive=true:=by rw[hid];rfl
 obtain⟨k1,k2⟩:=JA hs hal hm (o':= .row k (over xs off ys)) rfl w1 w2 w3 w4 w5 λhmono=>by
  have hol:=jD (cs:=xs) (ds:=ys) hl;refine⟨_,hm,by rw[hol];exact q0,by rw[hol];exact q6,q7,?_,_,T,w6,?_,?_,?_⟩
  .intro y hy;unfold over at hy;rcases jeO.1 hy with hy|hy
   .rcases jeO.1 hy with hy|hy
    .exact q8 y (jfE hy)
    .exact hk y hy
   .exact q8 y (List.mem_of_mem_drop hy)
  .rw [jfF,jD (by simp only[jeK];omega),jeK];exact q9
  .rw [hol];rw[kC _ _ _ _ (by rw[l1];exact hfit) (by simpa using hcap)];exact jd.over q4 hone _
  .rw [hol,Z5 q8 hk];rw[kC _ _ _ _ (by rw[l1];exact hfit) (by simpa using hcap)];exact jo hmono _ _ (yY q5 hu)
 exact⟨W,hst,k1,k2⟩
theorem zl{d top:Nat}{x:Xl}{n:Nat}(h:pB d top x=some n):n<=top/\((x=none/\n=d)\/ ∃k,x=some (.val (.int k n))):=by
 unfold pB at h;split at h
 .split at h
  .cases h;exact⟨by assumption,Or.inl ⟨rfl,rfl⟩⟩
  .cases h
 .rename_i k z;split at h
  .rename_i hz;cases h;refine⟨by omega,Or.inr ⟨k,?_⟩⟩;rw[show((z.toNat:Nat):Int)=z by omega]
  .cases h
 .cases h
theorem yH{ev:Operand->Value}{w:World}{O:Nat->Prop}{lo hi:Option Operand}{alo ahi:Xl}{len cap top:Nat}(hlo:∀y,lo=some y-> ∃a,alo=some a/\rel w O a (ev y))(hlo0:lo=none->alo=none)(hhi:∀y,hi=some y-> ∃a,ahi=some a/\rel w O a (ev y))(hhi0:hi=none->ahi=none)
  {l h:Nat} (hh:pB len top ahi=some h) (hl:pB 0 h alo=some l) (ht:top<=cap) :
  (Instr.sliceBounds true len cap (lo.map ev) (hi.map ev) none).run P w = .ok (l,h,cap) w:=by
 obtain⟨h1,h2⟩:=zl hh;obtain⟨l1,l2⟩:=zl hl;have el:∀y,lo=some y-> ∃k,ev y = .int k l:=by
  intro y hy;obtain⟨a,rfl,ha⟩:=hlo y hy;rcases l2 with⟨l2,_⟩|⟨k,l2⟩
  .cases l2
  .cases l2;simp only[rel]at ha;exact⟨_,ha⟩
 have el0:lo=none->l=0:=λhy=>by
  rcases l2 with⟨_,l2⟩|⟨k,l2⟩
  .exact l2
  .rw [hlo0 hy]at l2;cases l2
 have eh:∀y,hi=some y-> ∃k,ev y = .int k h:=by
  intro y hy;obtain⟨a,rfl,ha⟩:=hhi y hy;rcases h2 with⟨h2,_⟩|⟨k,h2⟩
  .cases h2
  .cases h2;simp only[rel]at ha;exact⟨_,ha⟩
 have eh0:hi=none->h=len:=λhy=>by
  rcases h2 with⟨_,h2⟩|⟨k,h2⟩
  .exact h2
  .rw [hhi0 hy]at h2;cases h2
 have hc:h<=cap:=by omega
 cases lo with
 |none=>
  have:=el0 rfl;subst this;cases hi with
  |none=>
   have:=eh0 rfl;subst this;simp[Instr.sliceBounds]
  |some z=>
   obtain⟨k,hz⟩:=eh z rfl;simp[Instr.sliceBounds,Instr.sliceBound,hz,asIntOf,hc]
 |some y=>
  obtain⟨k,hy⟩:=el y rfl;cases hi with
  |none=>
   have:=eh0 rfl;subst this;simp[Instr.sliceBounds,Instr.sliceBound,hy,asIntOf,l1]
  |some z=>
   obtain⟨k',hz⟩:=eh z rfl;simp[Instr.sliceBounds,Instr.sliceBound,hy,hz,asIntOf,hc,l1]
theorem jl.winSlice{t:TypeId}{x:Operand}{lo hi:Option Operand}(ho:o.op = .slice t x lo hi none){e:Nat}(ht:P.underlying t=some (.slice e)){i:TI}(hi':TI.ok P e i){st0:jb}{p:WP}(hp:JJ st0 (ρ x)=some p)(hk:p.k=i.size)
  {alo ahi:Xl} (hlo:∀y,lo=some y-> ∃a,alo=some a/\dat (ρ y)=some a) (hlo0:lo=none->alo=none) (hhi:∀y,hi=some y-> ∃a,ahi=some a/\dat (ρ y)=some a) (hhi0:hi=none->ahi=none)
  {l h:Nat} (hh:pB p.n (p.xs.length-p.off) ahi=some h) (hl:pB 0 h alo=some l) :
  jl P X o ρ ⟨.win p.id p.k (p.off+l) (h-l),[.len p.id p.k p.xs.length],[]⟩:=by
 refine jl.same λw O0 m st ev hs hg hr=>?_;have hx':=hr x (by simp[ho,Op.operands]);obtain⟨hd,xs',e1,e2,e3,e4,e5⟩:=(ji9 (X:=X) hp).2 w O0 m st _ hs (hg _ (jdC.2 rfl)) hx';have hlo':∀y,lo=some y-> ∃a,alo=some a/\rel w (Ow O0 m st) a (ev y):=λy hy=>by
  obtain⟨a,f1,f2⟩:=hlo y hy;exact⟨a,f1,jm f2 (hr y (by simp[ho,Op.operands,hy]))⟩
 have hhi'':∀y,hi=some y-> ∃a,ahi=some a/\rel w (Ow O0 m st) a (ev y):=λy hy=>by
  obtain⟨a,f1,f2⟩:=hhi y hy;exact⟨a,f1,jm f2 (hr y (by simp[ho,Op.operands,hy]))⟩
 obtain⟨b1,_⟩:=zl hh;obtain⟨b2,_⟩:=zl hl;cases hd with
 |tre=>exact e4.elim
 |mp=>exact e4.elim
 |none=>
  simp only[rowOk]at e5;simp only[km]at e4;obtain⟨q1,q2,a,q3⟩:=e4;have hx0:p.xs.length=0:=by rw[<-e3,e5];rfl
  have hh0:h=0:=by omega
  subst hh0;have hl0:l=0:=by omega
  subst hl0;rw[q2]at hh;have hb:=yH (P:=P) (w:=w) (ev:=ev) (cap:=0) hlo' hlo0 hhi'' hhi0 hh hl (by omega);refine⟨.slice a 0 0,?_,?_⟩
  .simp [execOp,ho,Instr.sliceAt,q3,jaz ht,Instr.slice,hb,hi'.run_sizeOf w]
  .simp only[relV];exact⟨_,e1,by simp[q1],by simp,a,rfl⟩
 |blk b c ll=>
  obtain⟨f1,f2,f3,f4,_⟩:=e5;simp only[km]at e4;obtain⟨q1,q,q3,q4⟩:=e4;have hb:=yH (P:=P) (w:=w) (ev:=ev) (cap:=c-p.off) hlo' hlo0 hhi'' hhi0 hh hl (by omega);by_cases hcl:c-p.off=l
  .refine ⟨.slice (some ⟨b,q,none⟩) (h-l) (c-p.off-l),?_,?_⟩
   .rw [hcl]at hb;simp[execOp,ho,Instr.sliceAt,q3,jaz ht,Instr.slice,hb,hi'.run_sizeOf w,hcl]
   .simp only[relV];exact⟨_,e1,by omega,q,by congr 1;omega,λhlt=>by omega⟩
  .refine ⟨.slice (some ⟨b,q+l*i.size,none⟩) (h-l) (c-p.off-l),?_,?_⟩
   .simp [execOp,ho,Instr.sliceAt,q3,jaz ht,Instr.slice,hb,hi'.run_sizeOf w,hcl,kh]
   .simp only[relV];refine⟨_,e1,by omega,_,by congr 1;omega,λhlt=>?_⟩;rw[q4 (by omega),<-hk,jb5]
theorem jl.win3{t:TypeId}{x l h mx:Operand}(ho:o.op = .slice t x (some l) (some h) (some mx)){e:Nat}(ht:P.underlying t=some (.slice e)){i:TI}(hi':TI.ok P e i){st0:jb}{p:WP}(hp:JJ st0 (ρ x)=some p)
  {al ah am:A} (hl:dat (ρ l)=some al) (hh:dat (ρ h)=some ah) (hm:dat (ρ mx)=some am) {ln hn mn:Nat} (b1:pB 0 (p.xs.length-p.off) (some am)=some mn) (b2:pB 0 mn (some ah)=some hn) (b3:pB 0 hn (some al)=some ln) :
  jl P X o ρ ⟨.top,[.len p.id p.k p.xs.length],[]⟩:=by
 refine jl.same λw O0 m st ev hs hg hr=>?_;have hx':=hr x (by simp[ho,Op.operands]);obtain⟨hd,xs',e1,e2,e3,e4,e5⟩:=(ji9 (X:=X) hp).2 w O0 m st _ hs (hg _ (jdC.2 rfl)) hx';have v1:=jm hl (hr l (by simp[ho,Op.operands]));have v2:=jm hh (hr h (by simp[ho,Op.operands]));have v3:=jm hm (hr mx (by simp[ho,Op.operands]));obtain⟨c1,d1⟩:=zl b1;obtain⟨c2,d2⟩:=zl b2;obtain⟨c3,d3⟩:=zl b3;obtain⟨k1,d1⟩:=d1.resolve_left (λh=>by cases h.1);obtain⟨k2,d2⟩:=d2.resolve_left (λh=>by cases h.1);obtain⟨k3,d3⟩:=d3.resolve_left (λh=>by cases h.1);cases d1;cases d2;cases d3;simp only[rel]at v1 v2 v3;obtain⟨a,n,c,hv,hc⟩:∃a n c,ev x = .slice a n c/\p.xs.length-p.off<=c:=by
  cases hd with
  |tre=>exact e4.elim
  |mp=>exact e4.elim
  |none=>
   simp only[rowOk]at e5;simp only[km]at e4;obtain⟨q1,q2,a,q3⟩:=e4;refine⟨a,0,0,q3,?_⟩;rw[<-e3,e5];simp
  |blk b c ll=>
   obtain⟨f1,f2,_⟩:=e5;simp only[km]at e4;obtain⟨_,q,q3,_⟩:=e4;exact⟨_,_,_,q3,by omega⟩
 have hmc:mn<=c:=by omega
 have hb:(Instr.sliceBounds true n c (some (ev l)) (some (ev h)) (some (ev mx))).run P w = .ok (ln,hn,mn) w:=by
  simp[Instr.sliceBounds,Instr.sliceBound,v1,v2,v3,asIntOf,hmc,c2,c3]
 refine⟨_,by simp[execOp,ho,Instr.sliceAt,hv,jaz ht,Instr.slice,hb,hi'.run_sizeOf w];rfl,by simp[relV]⟩
theorem jl.winIndex{t:TypeId}{x ix:Operand}(ho:o.op = .indexAddr t x ix){e:Nat}(ht:P.underlying t=some (.slice e)){i:TI}(hi:TI.ok P e i){id off n j:Nat}{b:A}(hx:ρ x = .win id i.size off n)(hn:dat (ρ ix)=some b)(h:pIx n b=some j)
  {xs:Xc} :jl P X o ρ ⟨.rptr id (off+j) i.size 0,[.len id i.size xs.length],[]⟩:=by
 refine jl.same λw O0 m st ev hs hg hr=>?_;have hx':=hr x (by simp[ho,Op.operands]);have hn':=jm hn (hr ix (by simp[ho,Op.operands]));rw[hx]at hx';obtain⟨kk,z,rfl,h0,h2,rfl⟩:=Jc h;obtain⟨xs',g1,g2⟩:=hg _ (jdC.2 rfl);simp only[relV]at hx';obtain⟨hd,q1,q2⟩:=hx';have ho':=hs.obj id;rw[g1]at ho';obtain⟨hd',e1,e2⟩:=ho';rw[q1]at e1;cases e1;simp only[rel]at hn';cases hd with
 |tre=>exact q2.elim
 |mp=>exact q2.elim
 |none=>simp only[km]at q2;omega
 |blk bb c l=>
  obtain⟨rfl,f1,_⟩:=e2;simp only[km]at q2;obtain⟨r1,q,r2,r3⟩:=q2;have hqe:=r3 (by omega);subst hqe;have hb:0<=z/\z<(n:Int):=⟨h0,h2⟩;refine⟨.pointer (some ⟨bb,off*i.size+z.toNat*i.size,none⟩),?_,?_⟩
  .simp only[execOp,ho,Instr.indexAt,r2,hn',asIntOf,jbY,jdA,jbW,jaz ht,hb,and_self,jer,hi.run_sizeOf w,kh,Sem.run_ite]
  .simp only[relV];exact⟨_,bb,q1,rfl,by rw[jb5];simp⟩
theorem zH(z:Array Value):∀n,(Builtin.zeroCells z n).toList=(List.replicate n z.toList).flatten
 |0=>by simp[Builtin.zeroCells]
 |n+1=>by
  have ih:=zH z n;rw[jeZ,jdT,<-ih];unfold Builtin.zeroCells;rw[jfu,jfu,jfV,jfV,show(n+1)*z.size=z.size+n*z.size by rw[jb5];omega,List.range_add,List.map_append,jfs];congr 1
  .refine je9 λj=>?_;rw[jel];by_cases h:j<z.size
   .rw [jfr h];simp[Nat.mod_eq_of_lt h,h]
   .rw [jdS (by simpa using h),jdS (by simpa using h)];rfl
  .refine List.map_congr_left λj _=>?_;simp
theorem qA{st:jb}{id:Nat}{o':Obj} :ji st [.obj id o']=upd st id o':=rfl
theorem upd_same{st:jb}{id:Nat}{o':Obj}(h:st id=o'):upd st id o'=st:=by
 funext q;by_cases e:q=id
 .subst e;rw[jc,h]
 .rw [upd_ne _ _ e]
theorem jl.winClear{x:Operand}{xs0:Array Operand}{ts:Array TypeId}{t:TypeId}(ho:o.op = .call { callee:= .builtin .clear,args:=xs0,argTypes:=ts })(hxs:xs0 = #[x])(hts:ts = #[t])
  {e:Nat} (ht:P.underlying t=some (.slice e)) {i:TI} (hi:TI.ok P e i) {st0:jb} {p:WP} (hp:JJ st0 (ρ x)=some p) (hk:p.k=i.size) {z:Xd} (hz:∀(w:World)(O:Nat->Prop),je w O z i.zero.cells.toList) (hzo:z.all Ka=true) :
  jl P X o ρ ⟨.tup [],[.obj p.id (.row p.k p.xs)],[.obj p.id (.row p.k (yn p.xs p.off (List.replicate p.n z)))]⟩:=by
 intro w O0 m st ev hs hg hr _hc;have hx':=hr x (by simp[ho,Op.operands,Call.operands,hxs]);have hid:st p.id = .row p.k p.xs:=hg _ (jdC.2 rfl);obtain⟨hd,xs',e1,e2,e3,e4,e5⟩:=(ji9 (X:=X) hp).2 w O0 m st _ hs ⟨p.xs,hid,rfl⟩ hx';rw[hid]at e2;cases e2;obtain⟨jj,hj,j1,j2,j3⟩:=hi.some_info;have hrun:∀v' w',(Builtin.clear_ ts o.type #[ev x]).run P w = .ok v' w'->(execOp ev o).run P w = .ok (.value v') w':=by
  intro v' w' h;subst hxs;simp[execOp,ho,resolve,invoke,builtin,h]
 have hnil:p.n=0->(Builtin.clear_ ts o.type #[ev x]).run P w = .ok (.tuple #[]) w/\ji st [.obj p.id (.row p.k (yn p.xs p.off (List.replicate p.n z)))]=st:=by
  intro h0;constructor
  .subst hts;cases hd with
   |tre=>exact e4.elim
   |mp=>exact e4.elim
   |none=>simp only[km]at e4;obtain⟨_,_,a,q3⟩:=e4;cases a<;>simp[Builtin.clear_,jaz ht,q3]
   |blk b c l=>simp only[km]at e4;obtain⟨_,q,q3,_⟩:=e4;simp[Builtin.clear_,jaz ht,q3,h0]
  .rw [h0,qA];exact upd_same (by rw[hid];simp[yn,over])
 by_cases h0:p.n=0
 .obtain ⟨a1,a2⟩:=hnil h0;rw[hrun _ _ a1];refine⟨m,?_,?_,?_⟩
  .rw [a2];exact Chg.refl _ _ _
  .rw [a2];exact hs
  .simp only[relV];exact⟨[],rfl,by simp[ja]⟩
 .cases hd with
  |tre=>exact e4.elim
  |mp=>exact e4.elim
  |none=>simp only[km]at e4;omega
  |blk b c l=>
   have e5':=e5;obtain⟨rfl,f1,f2,f3,_⟩:=e5;simp only[km]at e4;obtain⟨q1,q,q3,q4⟩:=e4;have hqe:=q4 (by omega);subst hqe;have hzl:z.length=i.size:=by rw[<-jh (hz w (Ow O0 m st))];simpa using hi.zsize
   have hrep:∀n,je w (Ow O0 m st) (List.replicate n z).flatten (List.replicate n i.zero.cells.toList).flatten:=by
    intro n;induction n with
    |zero=>simp[je]
    |succ n ih=>rw[jeZ,jeZ,jdT,jdT];exact jA (hz _ _) ih
   have hcells:(Builtin.zeroCells i.zero.cells p.n).toList=(List.replicate p.n i.zero.cells.toList).flatten:=by
    exact zH _ _
   have hone:jd (List.replicate p.n i.zero.cells.toList).flatten:=by
    have h1:∀{as:Xd}{us:Xh},je w (Ow O0 m st) as us->as.all Ka=true->jd us:=by
     intro as;induction as with
     |nil=>intro us h _;simp only[je]at h;subst h;intro v hv;cases hv
     |cons a as ih=>
      intro us h hk;simp only[je,jev,jbX]at h hk;obtain⟨v,t,rfl,g1,g2⟩:=h;intro y hy;rcases ja1.1 hy with rfl|hy
      .exact zK g1 hk.1
      .exact ih g2 hk.2 y hy
    intro v hv;obtain⟨l,hl,hv⟩:=jfD.1 hv;rw[jfW hl]at hv;exact h1 (hz w (Ow O0 m st)) hzo v hv
   obtain⟨W,hst,k1,k2⟩:=Yo P hs hid e1 (ys:=List.replicate p.n z) (hrep p.n) hone (λy hy=>by rw[jfW hy,hzl,hk]) (off:=p.off) (by simpa using q1);have hcl:(Builtin.clear_ ts o.type #[ev x]).run P w = .ok (.tuple #[]) W:=by
    subst hts;have hst':(storeCells ⟨b,p.off*p.k,none⟩ (Builtin.zeroCells i.zero.cells p.n).toList).run P w = .ok () W:=by rw[hcells];exact hst
    simp[Builtin.clear_,jaz ht,q3,zeroValue,typeInfo,hj,j3,hst']
   rw[hrun _ _ hcl];exact⟨m,k1,k2,by simp only[relV];exact⟨[],rfl,by simp[ja]⟩⟩
theorem jl.nilEq{op:BinOp}{t u:TypeId}{x y:Operand}(ho:o.op = .binOp op t x y u)(hop:jdh op=true)(hy:Z8 y=true){e:Nat}(ht:P.underlying t=some (.slice e)){rds:Xm}{N:Nat}
  (hv:∀(w:World)(O0:Nat->Prop)(m:jq)(st:jb)(v:Value),Sto X w O0 m st->(∀r∈rds,jC st r)->relV w (Ow O0 m st) m (ρ x) v-> ∃a n c,v = .slice a n c/\(N≠0->a.isNone=false)):jl P X o ρ ⟨.ub N (YQ op),rds,[]⟩:=by
 refine jl.sameC λw O0 m st ev hs hg hr hc=>?_;obtain⟨a,n,c,hx,hN⟩:=hv w O0 m st _ hs hg (hr x (by simp[ho,Op.operands]));have hy':ev y = .slice none 0 0:=by
  unfold Z8 at hy;split at hy
  .exact hc _
  .cases hy
 have hd:∀(d:Nat)(w:World),(Op.equalIn (d+1) t (.slice a n c) (.slice none 0 0)).run P w = .ok a.isNone w:=by
  intro d w;cases a<;>simp[Op.equalIn,jaz ht]
 have he:=hd 9999;cases op<;>simp only[jdh,jfB]at hop
 .refine ⟨.bool a.isNone,?_,by simp only[relV,YQ];exact⟨a.isNone,by simp,hN⟩⟩
  simp only[execOp,ho,hx,hy',eqGuard,binOp,Op.equal,Op.maxDepth];simp[he]
 .refine ⟨.bool !a.isNone,?_,by simp only[relV,YQ];exact⟨a.isNone,by simp,hN⟩⟩
  simp only[execOp,ho,hx,hy',eqGuard,binOp,Op.equal,Op.maxDepth];simp[he]
theorem jl.sliceNil{t:TypeId}{x:Operand}{lo hi:Option Operand}(ho:o.op = .slice t x lo hi none){e:Nat}(ht:P.underlying t=some (.slice e)){i:TI}(hi':TI.ok P e i){k:Nat}(hx:ρ x = .nil k)
  {alo ahi:Xl} (hlo:∀y,lo=some y-> ∃a,alo=some a/\dat (ρ y)=some a) (hlo0:lo=none->alo=none) (hhi:∀y,hi=some y-> ∃a,ahi=some a/\dat (ρ y)=some a) (hhi0:hi=none->ahi=none)
  {l h:Nat} (hh:pB 0 0 ahi=some h) (hl:pB 0 h alo=some l):jl P X o ρ ⟨.nil i.size,[],[]⟩:=by
 refine jl.same λw O0 m st ev hs hg hr=>?_;have hx':=hr x (by simp[ho,Op.operands]);rw[hx]at hx';simp only[relV]at hx'⊢;obtain⟨a,q3⟩:=hx';have hlo':∀y,lo=some y-> ∃a,alo=some a/\rel w (Ow O0 m st) a (ev y):=λy hy=>by
  obtain⟨a,f1,f2⟩:=hlo y hy;exact⟨a,f1,jm f2 (hr y (by simp[ho,Op.operands,hy]))⟩
 have hhi'':∀y,hi=some y-> ∃a,ahi=some a/\rel w (Ow O0 m st) a (ev y):=λy hy=>by
  obtain⟨a,f1,f2⟩:=hhi y hy;exact⟨a,f1,jm f2 (hr y (by simp[ho,Op.operands,hy]))⟩
 obtain⟨b1,_⟩:=zl hh;obtain⟨b2,_⟩:=zl hl;have hh0:h=0:=by omega
 subst hh0;have hl0:l=0:=by omega
 subst hl0;have hb:=yH (P:=P) (w:=w) (ev:=ev) (cap:=0) hlo' hlo0 hhi'' hhi0 hh hl (by omega);exact⟨.slice a 0 0,by simp[execOp,ho,Instr.sliceAt,q3,jaz ht,Instr.slice,hb,hi'.run_sizeOf w],a,rfl⟩
theorem jl.appendZ{s x:Operand}{xs:Array Operand}{ts:Array TypeId}{t t':TypeId}(ho:o.op = .call { callee:= .builtin .append,args:=xs,argTypes:=ts })(hxs:xs = #[s,x])(hts:ts = #[t,t'])
  {e:Nat} (ht:P.underlying t=some (.slice e)) {k:IntKind} (ht':P.underlying t'=some (.int k)) {i:TI} (hi:TI.ok P e i) {k0:Nat} (hs:ρ s = .nil k0) {kl:IntKind} {n:Int} (hx:dat (ρ x)=some (.val (.int kl n))) {nid:Nat}
  (h0:0<=n) (hfit:n.toNat*i.bytes<=140737488355328) (h63:n.toNat<=9223372036854775807) {z:Xd} (hz:∀w O,je w O z i.zero.cells.toList) (hone:jd i.zero.cells.toList) :
  jl P X o ρ ⟨.row nid,[.fresh nid],[.obj nid (.row i.size (List.replicate n.toNat z))]⟩:=by
 intro w O0 m st ev hst hg hr _hc;have hs':=hr s (by simp[ho,Op.operands,Call.operands,hxs]);have hx':=jm hx (hr x (by simp[ho,Op.operands,Call.operands,hxs]));rw[hs]at hs';simp only[relV]at hs';simp only[rel]at hx';obtain⟨a,hs'⟩:=hs';obtain⟨jj,hj,j1,j2,j3⟩:=hi.some_info;have hf:st nid = .dead:=hg (.fresh nid) (by simp);obtain⟨N,rfl⟩:=jfX h0;simp only[Int.toNat_natCast]at hfit h63⊢;have hw:IntKind.i64.wrap (N:Int)=N:=K7 ⟨by omega,by omega⟩;have hbig:¬(281474976710656<(N:Int)*(jj.bytes:Int)):=by
  rw[j2];have:((N*i.bytes:Nat):Int)<=((140737488355328:Nat):Int):=Int.ofNat_le.2 hfit;rw[Int.natCast_mul]at this;generalize (N:Int)*(i.bytes:Int)=q at this⊢;omega
 have hzlen:i.zero.cells.toList.length=i.size:=by simpa using hi.zsize
 have hzl:z.length=i.size:=by rw[<-jh (hz w (Ow O0 m st))];exact hzlen
 by_cases hN:N=0
 .subst hN;have hrun:(execOp ev o).run P w = .ok (.value (.slice a 0 0)) w:=by
   refine jL (P:=P) (ev:=ev) ho hxs ?_;rw[hts,hs',hx'];have hw0:IntKind.i64.wrap 0=0:=hw;cases a<;>simp[Builtin.append_,jaz ht,jaz ht',sizeOf,typeInfo,hj,asInt,asIntOf,hw0,storeCells]
  rw[hrun];exact j4 hst (Below.refl _ _) hf (hd:= .none) ⟨a,rfl⟩ (Or.inl ⟨rfl,rfl⟩)
 .have hpos:0<N:=jf3 hN;have hgc:=grownCap_ge w N 0 e;have hgm:=grownCap_le_maxLen w N 0 e (by simpa[maxLen]using h63);have n1:¬(N<=0):=by omega
  have n3:¬(281474976710656<Builtin.nextslicecap N 0*jj.bytes):=by
   have:=growslice_fits (bytes:=i.bytes) hpos hfit;rw[j2];omega
  have hlist:(Builtin.zeroCells i.zero.cells N++Builtin.zeroCells i.zero.cells (grownCap w N 0 e-N)).toList.take (N*i.size)=(List.replicate N i.zero.cells.toList).flatten:=by
   have hl:(List.replicate N i.zero.cells.toList).flatten.length=N*i.size:=by
    rw[jJ (k:=i.size) λy hy=>by rw[jfW hy,hzlen],jfA]
   rw[Array.toList_append,zH,jf5 (by rw[hl];exact jdB _),jfU (by rw[hl];exact jdB _)]
  have hrep:∀N,je w (Ow O0 m st) (List.replicate N z).flatten (List.replicate N i.zero.cells.toList).flatten:=by
   intro N;induction N with
   |zero=>simp[je]
   |succ N ih=>rw[jeZ,jeZ,jdT,jdT];exact jA (hz _ _) ih
  have hones:jd (List.replicate N i.zero.cells.toList).flatten:=by
   intro v hv;obtain⟨l,hl,hv⟩:=jfD.1 hv;rw[jfW hl]at hv;exact hone v hv
  have hrun:(execOp ev o).run P w = .ok (.value (.slice (some ⟨w.heap.size,0,none⟩) N (grownCap w N 0 e))) (w.drew.alloc (.cells (Builtin.zeroCells i.zero.cells N++Builtin.zeroCells i.zero.cells (grownCap w N 0 e-N)) e)):=by
   refine jL (P:=P) (ev:=ev) ho hxs ?_;rw[hts,hs',hx'];have hold:(Builtin.firstCells jj.size 0 (.slice a 0 0)).run P w.drew = .ok #[] w.drew:=by
    cases a<;>simp[Builtin.firstCells,loadCells,loadCellsFrom]
   have n2:¬(9223372036854775807<(N:Int)):=by omega
   have nneg:¬((N:Int)<0):=by omega
   simp[Builtin.append_,jaz ht,jaz ht',sizeOf,typeInfo,zeroValue,hj,j3,asInt,asIntOf,hw,n1,n2,n3,nneg,hbig,Question.forced,hold,newRow,grownCap];rw[ja0 hN];by_cases hz0:N*jj.size=0
   .have e0:Builtin.zeroCells i.zero.cells N = #[]:=by
     apply je7;rw[Builtin.zeroCells,jfu,hi.zsize,<-j1,hz0];rfl
    rw[jbZ hz0,e0];simp
   .rw [ja0 hz0]
  rw[hrun];refine j4 hst (w':=w.drew.alloc _) (((Below.refl _ w).drew).alloc (by simp) _) hf (hd:= .blk w.heap.size (grownCap w N 0 e) (List.replicate N z).length) (by simp[hdr]) (Or.inr ⟨grownCap w N 0 e,_,e,rfl,?_,by simpa using hgc,by simpa[maxLen]using hgm,λy hy=>by rw[jfW hy,hzl],heap_alloc_new w.drew _,?_,?_,?_⟩)
  .show w.heap.size<(w.drew.alloc _).heap.size;rw[jR];simp
  .simp only[Array.size_append,Builtin.zeroCells,Array.size_map,Array.size_range,hi.zsize];rw[<-jb5];congr 1;omega
  .rw [jfA,hlist];exact hones
  .rw [jfA,hlist];exact hrep N
theorem jl.winAppend{s x:Operand}{xs0:Array Operand}{ts:Array TypeId}{t:TypeId}(ho:o.op = .call { callee:= .builtin .append,args:=xs0,argTypes:=ts })(hxs:xs0 = #[s,x])(hts:ts = #[t,t])
  {e:Nat} (ht:P.underlying t=some (.slice e)) {i:TI} (hi:TI.ok P e i) {st0:jb} {p:WP} (hp:JJ st0 (ρ s)=some p) (hk:p.k=i.size) {ys:Xc} {rds:Xm}
  (hx:∀(w:World)(O0:Nat->Prop)(m:jq)(st:jb)(u:Value),Sto X w O0 m st->(∀r∈rds,jC st r)->relV w (Ow O0 m st) m (ρ x) u->ym w (Ow O0 m st) i.size ys u)
  (hfit:p.off+p.n+ys.length<=p.xs.length) :
  jl P X o ρ ⟨.win p.id p.k p.off (p.n+ys.length),.obj p.id (.row p.k p.xs)::rds,[.obj p.id (.row p.k (yn p.xs (p.off+p.n) ys))]⟩:=by
 intro w O0 m st ev hs hg hr _hc;have hs':=hr s (by simp[ho,Op.operands,Call.operands,hxs]);have hsrc:=hx w O0 m st _ hs (λr h=>hg r (by simp[h])) (hr x (by simp[ho,Op.operands,Call.operands,hxs]));have hid:st p.id = .row p.k p.xs:=hg (.obj p.id (.row p.k p.xs)) (by simp);obtain⟨hd,xs',e1,e2,e3,e4,e5⟩:=(ji9 (X:=X) hp).2 w O0 m st _ hs ⟨p.xs,hid,rfl⟩ hs';rw[hid]at e2;cases e2;obtain⟨jj,hj,j1,j2,j3⟩:=hi.some_info;obtain⟨ad,c2,news,hv,hnews,hok',hyk,hsrc⟩:=hsrc;have hnl:news.length=ys.length*i.size:=by rw[jh hnews,jJ hyk]
 have same:ys=[]->ji st [.obj p.id (.row p.k (yn p.xs (p.off+p.n) ys))]=st:=by
  rintro rfl;rw[qA];exact upd_same (by rw[hid];simp[yn,over])
 cases hd with
 |tre=>exact e4.elim
 |mp=>exact e4.elim
 |none=>
  simp only[rowOk]at e5;simp only[km]at e4;obtain⟨q1,q2,a,q3⟩:=e4;have hy0:ys=[]:=by
   have hl:p.xs.length=0:=by rw[e5];rfl
   have:ys.length=0:=by omega
   exact jfN this
  have hrun:(execOp ev o).run P w = .ok (.value (.slice a 0 0)) w:=by
   refine jL (P:=P) (ev:=ev) ho hxs ?_;rw[hts,q3,hv,hy0];have hf:(Builtin.firstCells i.size 0 (.slice ad 0 c2)).run P w = .ok #[] w:=by
    cases ad<;>simp[Builtin.firstCells,loadCells,loadCellsFrom]
   cases a<;>simp[Builtin.append_,jaz ht,sizeOf,typeInfo,hj,j1,Builtin.lenOf,hf,storeCells]
  rw[hrun];refine⟨m,?_,?_,?_⟩
  .rw [same hy0];exact Chg.refl _ _ _
  .rw [same hy0];exact hs
  .simp only[relV];exact⟨_,e1,q1,by rw[q2,hy0];rfl,a,rfl⟩
 |blk b c l=>
  have e5':=e5;obtain⟨rfl,f1,f2,f3,_⟩:=e5;simp only[km]at e4;obtain⟨q1,q,q3,q4⟩:=e4;have hroom:p.n+ys.length<=c-p.off:=by omega
  by_cases hy0:ys=[]
  .subst hy0;have hf:(Builtin.firstCells i.size 0 (.slice ad 0 c2)).run P w = .ok #[] w:=by
    cases ad<;>simp[Builtin.firstCells,loadCells,loadCellsFrom]
   have hrun:(execOp ev o).run P w = .ok (.value (.slice (some ⟨b,q,none⟩) p.n (c-p.off))) w:=by
    refine jL (P:=P) (ev:=ev) ho hxs ?_;rw[hts,q3,hv];have hr':p.n<=c-p.off:=by omega
    simp[Builtin.append_,jaz ht,sizeOf,typeInfo,hj,j1,Builtin.lenOf,hf,storeCells,hr']
   rw[hrun];refine⟨m,?_,?_,?_⟩
   .rw [same rfl];exact Chg.refl _ _ _
   .rw [same rfl];exact hs
   .simp only[relV,jfJ,jfg];exact⟨_,e1,q1,q,rfl,q4⟩
  .have hypos:0<ys.length:=List.length_pos_iff.2 hy0;have hqe:=q4 (by omega);subst hqe;obtain⟨b2,off2,hb2,hreads⟩:=hsrc.resolve_left hy0;subst hb2;have hn1:∀jj u,news[jj]? = some u->w.cell? ((⟨b2,off2,none⟩:Addr).add jj)=some u:=λjj u hu=>by rw[kh];exact hreads jj u hu
   have hf:=jfT (P:=P) w i.size ys.length ⟨b2,off2,none⟩ ys.length c2 news hnl hn1;obtain⟨W,hst,k1,k2⟩:=Yo P hs hid e1 (ys:=ys) hnews hok' (λy hy=>by rw[hyk y hy,hk]) (off:=p.off+p.n) hfit;have hrun:(execOp ev o).run P w = .ok (.value (.slice (some ⟨b,p.off*p.k,none⟩) (p.n+ys.length) (c-p.off))) W:=by
    refine jL (P:=P) (ev:=ev) ho hxs ?_;rw[hts,q3,hv];have hf':(Builtin.firstCells jj.size ys.length (.slice (some ⟨b2,off2,none⟩) ys.length c2)).run P w = .ok news.toArray w:=by rw[j1];exact hf
    have hst':(storeCells ((⟨b,p.off*p.k,none⟩:Addr).add (p.n*jj.size)) news).run P w = .ok () W:=by
     rw[kh,j1,<-hk,<-jb5];exact hst
    simp[Builtin.append_,jaz ht,sizeOf,typeInfo,hj,Builtin.lenOf,hroom,hf',hst']
   rw[hrun];refine⟨m,k1,k2,?_⟩;simp only[relV];exact⟨_,e1,by omega,_,rfl,λ_=>rfl⟩
theorem jl.winCopy{s x:Operand}{xs0:Array Operand}{ts:Array TypeId}{t t':TypeId}(ho:o.op = .call { callee:= .builtin .copy,args:=xs0,argTypes:=ts })(hxs:xs0 = #[s,x])(hts:ts = #[t,t'])
  {e:Nat} (ht:P.underlying t=some (.slice e)) {i:TI} (hi:TI.ok P e i) {st0:jb} {p:WP} (hp:JJ st0 (ρ s)=some p) (hk:p.k=i.size) {ys:Xc} {rds:Xm}
  (hx:∀(w:World)(O0:Nat->Prop)(m:jq)(st:jb)(u:Value),Sto X w O0 m st->(∀r∈rds,jC st r)->relV w (Ow O0 m st) m (ρ x) u->ym w (Ow O0 m st) i.size ys u) :
  jl P X o ρ ⟨.d (vi (Nat.min ys.length p.n)),.obj p.id (.row p.k p.xs)::rds,[.obj p.id (.row p.k (yn p.xs p.off (ys.take p.n)))]⟩:=by
 intro w O0 m st ev hs hg hr _hc;have hs':=hr s (by simp[ho,Op.operands,Call.operands,hxs]);have hsrc:=hx w O0 m st _ hs (λr h=>hg r (by simp[h])) (hr x (by simp[ho,Op.operands,Call.operands,hxs]));have hid:st p.id = .row p.k p.xs:=hg (.obj p.id (.row p.k p.xs)) (by simp);obtain⟨hd,xs',e1,e2,e3,e4,e5⟩:=(ji9 (X:=X) hp).2 w O0 m st _ hs ⟨p.xs,hid,rfl⟩ hs';rw[hid]at e2;cases e2;obtain⟨jj,hj,j1,j2,j3⟩:=hi.some_info;obtain⟨ad,c2,news,hv,hnews,hok',hyk,hsrc⟩:=hsrc;have hnl:news.length=ys.length*i.size:=by rw[jh hnews,jJ hyk]
 have hcopy:∀w',(Builtin.copy_ ts o.type #[ev s,ev x]).run P w = .ok (goInt (Nat.min ys.length p.n)) w'->(execOp ev o).run P w = .ok (.value (.int .i64 (Nat.min ys.length p.n:Nat))) w':=by
  intro w' h;subst hxs;simp[execOp,ho,resolve,invoke,builtin,h,goInt]
 have same:(ys.take p.n)=[]->ji st [.obj p.id (.row p.k (yn p.xs p.off (ys.take p.n)))]=st:=by
  intro h0;rw[h0,qA];exact upd_same (by rw[hid];simp[yn,over])
 have hsame:Nat.min ys.length p.n=0->(ys.take p.n)=[]:=λh=>by
  apply jfN;rw[List.length_take,Nat.min_comm];exact h
 have hwv:∃a cc,ev s = .slice a p.n cc/\(p.n=0\/ ∃b c l,hd = .blk b c l/\a=some ⟨b,p.off*p.k,none⟩/\p.off+p.n<=p.xs.length):=by
  cases hd with
  |tre=>exact e4.elim
  |mp=>exact e4.elim
  |none=>simp only[km]at e4;obtain⟨_,h2,a,h3⟩:=e4;exact⟨a,0,by rw[h2];exact h3,Or.inl h2⟩
  |blk b c l=>
   obtain⟨rfl,f1,_⟩:=e5;simp only[km]at e4;obtain⟨q1,q,q3,q4⟩:=e4;refine⟨_,_,q3,?_⟩;by_cases h0:p.n=0
   .exact Or.inl h0
   .exact Or.inr ⟨b,c,_,rfl,by rw[q4 (by omega)],q1⟩
 obtain⟨a,cc,q3,q4⟩:=hwv;by_cases h0:Nat.min ys.length p.n=0
 .have hf:(Builtin.firstCells i.size 0 (.slice ad ys.length c2)).run P w = .ok #[] w:=by
   cases ad<;>simp[Builtin.firstCells,loadCells,loadCellsFrom]
  have hrun:=hcopy w (by
   rw[hts,q3,hv,h0];have h0':min ys.length p.n=0:=h0;cases a<;>simp[Builtin.copy_,jaz ht,sizeOf,typeInfo,hj,j1,Builtin.lenOf,h0,h0',hf,storeCells])
  rw[hrun,h0];refine⟨m,?_,?_,by simp[relV,rel]⟩
  .rw [same (hsame h0)];exact Chg.refl _ _ _
  .rw [same (hsame h0)];exact hs
 .have hyne:ys≠ []:=λe=>h0 (by subst e;simp)
  have hn0:p.n≠0:=λe=>h0 (by rw[e];simp)
  obtain⟨b,c,l,rfl,rfl,q1⟩:=q4.resolve_left hn0;obtain⟨b2,off2,hb2,hreads⟩:=hsrc.resolve_left hyne;subst hb2;have hml:(ys.take p.n).length=Nat.min ys.length p.n:=by rw[List.length_take,Nat.min_comm]
  have hle:Nat.min ys.length p.n<=ys.length:=Nat.min_le_left _ _;have hnews2:je w (Ow O0 m st) (ys.take p.n).flatten (news.take (p.n*i.size)):=by
   rw[zi ys p.n hyk];exact kA _ hnews
  have hnl2:(news.take (p.n*i.size)).length=Nat.min ys.length p.n*i.size:=by
   rw[jh hnews2,jJ (λy hy=>hyk y (jfE hy)),hml]
  have hn1:∀jj u,(news.take (p.n*i.size))[jj]? = some u->w.cell? ((⟨b2,off2,none⟩:Addr).add jj)=some u:=λjj u hu=>by rw[kh];exact(hreads.take _) jj u hu
  have hf:=jfT (P:=P) w i.size (Nat.min ys.length p.n) ⟨b2,off2,none⟩ ys.length c2 _ hnl2 hn1;obtain⟨W,hst,k1,k2⟩:=Yo P hs hid e1 (ys:=ys.take p.n) hnews2 (hok'.take _) (λy hy=>by rw[hyk y (jfE hy),hk]) (off:=p.off) (by rw[hml];have:Nat.min ys.length p.n<=p.n:=Nat.min_le_right ys.length p.n;omega);have hrun:=hcopy W (by
   rw[hts,q3,hv];have hf':(Builtin.firstCells jj.size (Nat.min ys.length p.n) (.slice (some ⟨b2,off2,none⟩) ys.length c2)).run P w = .ok (news.take (p.n*i.size)).toArray w:=by rw[j1];exact hf
   simp[Builtin.copy_,jaz ht,sizeOf,typeInfo,hj,Builtin.lenOf,hf',hst])
  rw[hrun];exact⟨m,k1,k2,by simp[relV,rel]⟩
end
end
noncomputable section
def jZ:A->Bool
 |.val x=>Ka (.val x)
 |_=>false
def jbo:A->Bool
 |.sl _ _=>true
 |_=>false
theorem jjV{a:A}(h:jZ a=true):∃x,a = .val x/\Ka a=true:=by
 cases a with
 |val x=>exact⟨x,rfl,h⟩
 |_=>cases h
theorem Qo{w:World} :∀{ks:List Hd}{as:Xd}{vs:Xh}{p:Nat}{x y:Value},jy w as vs ks->as[p]? = some (.val y)->jy w (as.set p (.val x)) (vs.set p x) ks
 | [],_,_,_,_,_,h,e=>by simp only[jy]at h;obtain⟨rfl,rfl⟩:=h;simp at e
 |h::hs,_,_,p,x,y,hr,e=>by
  obtain⟨a,as',v,vs',rfl,rfl,h3,h4⟩:=ju.1 hr;cases p with
  |zero=>simp at e;subst e;exact ju.2 ⟨.val x,as',x,vs',rfl,rfl,⟨h3.1,rfl⟩,h4⟩
  |succ p=>simp at e;exact ju.2 ⟨a,_,v,_,rfl,rfl,h3,Qo h4 e⟩
theorem ZQ{w:World}{O:Nat->Prop}{ks:List Hd} :∀{ds:Xd}{us:Xh}{as:Xd}{vs:Xh}{p:Nat},jy w as vs ks->(∀q,q<ds.length-> ∃y,as[p+q]? = some (.val y))->ds.all jZ=true->je w O ds us->
  jy w (over as p ds) (over vs p us) ks
 | [],us,as,vs,p,h,_,_,hr=>by
  simp only[je]at hr;subst hr;simpa[over]using h
 |d::ds,us,as,vs,p,h,ho,hv,hr=>by
  simp only[je]at hr;obtain⟨u,r,rfl,h1,h2⟩:=hr;simp only[jev,jbX]at hv;obtain⟨x,rfl,_⟩:=jjV hv.1;simp only[rel]at h1;subst h1;obtain⟨y,hy⟩:=ho 0 (by simp);have hs:=Qo (x:=u) h hy;have hl:=Jl h;have hlr:=jh h2;have hlast:p+ds.length<as.length:=by
   obtain⟨y',hy'⟩:=ho ds.length (by simp);exact(jeM.1 hy').1
  rw[<-zt (by omega),<-zt (by omega)];rw[jfg]at hs;refine ZQ hs (λq hq=>?_) hv.2 h2;obtain⟨y',hy'⟩:=ho (q+1) (by simp;omega);exact⟨y',by rw[jfy (by omega),show p+1+q=p+(q+1) by omega];exact hy'⟩
section
variable{P:Program}{X:Ctx}{o:Oper}{ρ:Operand->V}{C:Cfg}
theorem zR{w:World}{O0:Nat->Prop}{m:jq}{st:jb}(hs:Sto X w O0 m st){id k:Nat}{f:Bool}{xs:Xc}(hf:st id = .tre f k xs){hd:Hd}(hm:m id=some hd):jf w f k xs hd/\hd.blocks.Nodup:=by
 have ho:=hs.obj id;rw[hf,hm]at ho;obtain⟨hd',g1,g2,g3⟩:=ho;cases g1;exact⟨g2,g3⟩
theorem jl.indexTre{t:TypeId}{x ix:Operand}(ho:o.op = .indexAddr t x ix){e:Nat}(ht:P.underlying t=some (.slice e)){i:TI}(hi:TI.ok P e i){id len n:Nat}{f:Bool}{b:A}(hx:ρ x = .row id)(hn:dat (ρ ix)=some b)(h:pIx len b=some n) :
  jl P X o ρ ⟨.rptr id n i.size 0,[.tlen id f i.size len],[]⟩:=by
 refine jl.same λw O0 m st ev hs hg hr=>?_;have hx':=hr x (by simp[ho,Op.operands]);have hn':=jm hn (hr ix (by simp[ho,Op.operands]));rw[hx]at hx';simp only[relV]at hx';obtain⟨hd,q1,q2⟩:=hx';obtain⟨kk,z,rfl,h0,h2,rfl⟩:=Jc h;obtain⟨xs,g1,rfl⟩:=hg _ (jdC.2 rfl);obtain⟨q3,_⟩:=zR hs g1 q1;simp only[rel]at hn';cases hd with
 |none=>simp only[jf]at q3;subst q3;simp at h2;omega
 |blk b c n=>simp[jf]at q3
 |mp=>simp[jf]at q3
 |tre f' b c n ks=>
  simp only[jf]at q3;obtain⟨_,rfl,_⟩:=q3;simp only[hdr]at q2;have hb:0<=z/\z<(xs.length:Int):=⟨h0,h2⟩;refine⟨.pointer (some ⟨b,z.toNat*i.size,none⟩),?_,?_⟩
  .simp only[execOp,ho,Instr.indexAt,q2,hn',asIntOf,jbY,jdA,jbW,jaz ht,hb,and_self,jer,hi.run_sizeOf w,kh,Sem.run_ite,je8]
  .simp only[relV];exact⟨_,b,q1,rfl,by simp⟩
theorem Qr{w:World}{O0:Nat->Prop}{m:jq}{st:jb}(hs:Sto X w O0 m st){id k ii j b:Nat}{f:Bool}{xs:Xc}{cs:Xd}{a:A}{hd:Hd}(hf:st id = .tre f k xs)(hm:m id=some hd)(hb:hd.root=some b)(hi:xs[ii]? = some cs)(hj:cs[j]? = some a) :
  cs.length=k/\ ∃c n ks kid v,hd = .tre f b c n ks/\ks[ii*k+j]? = some kid/\w.cell? ⟨b,ii*k+j,none⟩=some v/\jbS w kid a v:=by
 obtain⟨q3,_⟩:=zR hs hf hm;cases hd with
 |none=>cases hb
 |blk b' c n=>simp[jf]at q3
 |mp=>simp[jf]at q3
 |tre f' b' c n ks=>
  cases hb;simp only[jf]at q3;obtain⟨rfl,rfl,h3,h4,h5,cc,T,h6,h7,h8,h9⟩:=q3;have hcl:=h5 cs (jec hi);have hjk:j<k:=by rw[<-hcl];exact(jeM.1 hj).1
  obtain⟨kid,v,e1,e2,e3⟩:=yM h9 ((jQ h5 hi hjk).trans hj);refine⟨hcl,c,_,ks,kid,v,rfl,e1,?_,e3⟩;have:=(Reads.block h6).take (xs.length*k);simpa using this _ v e2
theorem jl.loadSub{t:TypeId}{x:Operand}(ho:o.op = .load t x){i:TI}(hi:TI.ok P t i)(hp:i.kind.plain=true){id ii k j:Nat}(hx:ρ x = .rptr id ii k j){cs:Xd}(hs:jbo (qL cs j)=true) :
  jl P X o ρ ⟨.sub id ii k j,[.telem id true ii k cs],[]⟩:=by
 refine jl.same λw O0 m st ev hst hg hr=>?_;have hx':=hr x (by simp[ho,Op.operands]);rw[hx]at hx';simp only[relV]at hx';obtain⟨hd,b,q1,q2,q3⟩:=hx';obtain⟨xs,g1,g2⟩:=hg _ (jdC.2 rfl);have hja:∃a,cs[j]? = some a/\jbo a=true:=by
  unfold qL at hs;rw[jcQ]at hs;cases hc:cs[j]? with
  |none=>rw[hc]at hs;cases hs
  |some a=>rw[hc]at hs;exact⟨a,rfl,hs⟩
 obtain⟨a,ha,hsl⟩:=hja;obtain⟨_,c,n,ks,kid,v,rfl,e1,e2,e3⟩:=Qr hst g1 q1 q2 g2 ha;have hk:i.kind.known=true:=by cases hi:i.kind<;>simp_all [TK.known,TK.plain]
 obtain⟨z,w1,w2⟩:=run_loadCells (P:=P) hi hk (b:=b) (off:=ii*k+j) (vs:=[v]) (w:=w) (λq y hq=>by
  cases q with
  |zero=>simp at hq;subst hq;exact e2
  |succ q=>simp at hq) (by rw[hi.one hp];simp)
 rcases w2 with⟨_,w2⟩|⟨w2,_⟩
 .simp at w2;subst w2;refine⟨v,run_load ho q3 w1,?_⟩;simp only[relV];cases a with
  |sl l ys=>exact⟨_,q1,kid,e1,e3.1,yj e3.2⟩
  |_=>cases hsl
 .rw [hp]at w2;cases w2
theorem jl.loadVal{t:TypeId}{x:Operand}(ho:o.op = .load t x){i:TI}(hi:TI.ok P t i)(hp:i.kind.plain=true){id ii k j:Nat}{f:Bool}(hx:ρ x = .rptr id ii k j){cs:Xd}(hs:jZ (qL cs j)=true) :
  jl P X o ρ ⟨.d (qL cs j),[.telem id f ii k cs],[]⟩:=by
 refine jl.same λw O0 m st ev hst hg hr=>?_;have hx':=hr x (by simp[ho,Op.operands]);rw[hx]at hx';simp only[relV]at hx';obtain⟨hd,b,q1,q2,q3⟩:=hx';obtain⟨xs,g1,g2⟩:=hg _ (jdC.2 rfl);obtain⟨y,hy,_⟩:=jjV hs;have ha:cs[j]? = some (.val y):=by
  unfold qL at hy;rw[jcQ]at hy;cases hc:cs[j]? with
  |none=>rw[hc]at hy;cases hy
  |some a=>rw[hc]at hy;simp at hy;rw[hy]
 obtain⟨_,c,n,ks,kid,v,rfl,e1,e2,e3⟩:=Qr hst g1 q1 q2 g2 ha;have hk:i.kind.known=true:=by cases hi:i.kind<;>simp_all [TK.known,TK.plain]
 obtain⟨z,w1,w2⟩:=run_loadCells (P:=P) hi hk (b:=b) (off:=ii*k+j) (vs:=[v]) (w:=w) (λq y hq=>by
  cases q with
  |zero=>simp at hq;subst hq;exact e2
  |succ q=>simp at hq) (by rw[hi.one hp];simp)
 rcases w2 with⟨_,w2⟩|⟨w2,_⟩
 .simp at w2;subst w2;refine⟨v,run_load ho q3 w1,?_⟩;rw[hy];simp only[relV,rel];exact e3.2
 .rw [hp]at w2;cases w2
theorem jl.storeTre{t:TypeId}{a x:Operand}(ho:o.op = .store t a x){i:TI}(hi:TI.ok P t i){id ii k j:Nat}{f:Bool}(ha:ρ a = .rptr id ii k j){cs:Xd}{ds:Xd}
  (hx:∀(w:World)(O:Nat->Prop)(m:jq)(u:Value),relV w O m (ρ x) u->je w O ds u.cells.toList) (hok:ds.all jZ=true) (hsz:ds.length=i.size) (hl:j+ds.length<=k)
  (hold:((cs.drop j).take ds.length).all jZ=true):jl P X o ρ ⟨.d (.val undef),[.telem id f ii k cs],[.elem id ii (over cs j ds)]⟩:=by
 intro w O0 m st ev hs hg hr _hc;have ha':=hr a (by simp[ho,Op.operands]);have hx':=hr x (by simp[ho,Op.operands]);rw[ha]at ha';simp only[relV]at ha';obtain⟨hd,b,h0,h1,h2⟩:=ha';have h3:=hx _ _ _ _ hx';obtain⟨xs,g1,g2⟩:=hg (.telem id f ii k cs) (by simp);obtain⟨q3,qn⟩:=zR hs g1 h0;have hone:jd (ev x).cells.toList:=by
  have:∀{O:Nat->Prop}{as:Xd}{us:Xh},je w O as us->as.all jZ=true->jd us:=by
   intro O as;induction as with
   |nil=>intro us h _;simp only[je]at h;subst h;intro v hv;cases hv
   |cons a as ih=>
    intro us h hk;simp only[je,jev,jbX]at h hk;obtain⟨v,t,rfl,e1,e2⟩:=h;obtain⟨y,rfl,hk1⟩:=jjV hk.1;intro z hz;rcases ja1.1 hz with rfl|hz
    .exact zK e1 hk1
    .exact ih e2 hk.2 z hz
  exact this h3 hok
 have l1:=jh h3;cases hd with
 |none=>cases h1
 |blk b' c n=>simp[jf]at q3
 |mp=>simp[jf]at q3
 |tre f' b' c n ks=>
  cases h1;have hob:=q3;simp only[jf]at q3;obtain⟨rfl,rfl,p3,p4,p5,cc,T,p6,p7,p8,p9⟩:=q3;have hcl:cs.length=k:=p5 cs (jec g2);have hii:ii<xs.length:=(jeM.1 g2).1;have hfit:ii*k+j+ds.length<=xs.length*k:=by
   have:(ii+1)*k<=xs.length*k:=jeS k (by omega);rw[jb5]at this;omega
  have hcap:xs.length*k<=cc.size:=by rw[p7];exact jeS k p3
  obtain⟨W,hst,w1,w2,w3,w4,w5,w6⟩:=kQ P p6 (ii*k+j) (ev x).cells.toList (by rw[l1];omega) hone
  have hrun:(execOp ev o).run P w = .ok .skip W:=by
   have hsize:(ev x).cells.size=i.size:=by rw[<-hsz,<-l1];simp
   simp only[execOp,ho,Instr.storeAt,h2,Instr.sureAddr,storeVar,jbY,jdA,jbW,hi.run_sizeOf w,hsize,ne_eq,not_true_eq_false,if_false,hst]
  rw[hrun];have hal:(st id).alive=true:=by rw[g1];rfl
  have hvals:∀q,q<ds.length-> ∃y,xs.flatten[ii*k+j+q]? = some (.val y):=λq hq=>by
   have hjq:j+q<k:=by omega
   rw[jf9,jQ p5 g2 hjq];have hc:((cs.drop j).take ds.length)[q]? = cs[j+q]? :=by rw[jff,jbZ hq,jfp]
   have hge:cs[j+q]? = some cs[j+q]:=jam (by omega);rw[hge]at hc;obtain⟨y,hy,_⟩:=jjV (jfn.1 hold _ (jec hc));exact⟨y,by rw[hge,hy]⟩
  have hkids:∀b'∈Hd.blocksL ks,W.heap[b']? = w.heap[b']? :=λb' hb=>w5 b' λe=>by
   subst e;simp only[Hd.blocks,jfP]at qn;exact qn.1 hb
  obtain⟨k1,k2⟩:=qv hs (b:=b) hal h0 (by simp[Hd.blocks]) (o':= .tre f' k (xs.set ii (over cs j ds))) rfl w1 w2 w3 w4 w5 λhmono=>by
   refine⟨_,h0,?_,qn⟩;simp only[jf];refine⟨trivial,by simp,by simpa using p3,p4,?_,_,T,w6,?_,?_,?_⟩
   .intro y hy;rcases jfQ hy with hy|rfl
    .exact p5 y hy
    .rw [jD (by omega)];exact hcl
   .rw [jfF,jD (by have:=l1;have:=hcap;simp only[jeK]at *;omega),jeK];exact p7
   .simp only[jfz];rw[kC _ _ _ _ (by rw[l1];exact hfit) (by simpa using hcap)];exact jd.over p8 hone _
   .rw [jF xs ii j cs ds p5 g2 (by omega)];simp only[jfz];rw[kC _ _ _ _ (by rw[l1];exact hfit) (by simpa using hcap)];exact ZQ (jke ks hkids p9) hvals hok (jo (w':=W) hmono _ _ h3)
  have e:ji st [.elem id ii (over cs j ds)]=upd st id (.tre f' k (xs.set ii (over cs j ds))):=by
   show upd st id (Wr.on _ (st id))=_;rw[g1];rfl
  refine⟨m,?_,?_,by simp[relV,rel]⟩<;>rw[e]
  .exact k1
  .exact k2
end
end
noncomputable section
theorem JM{h:Hd} :∀{ks:List Hd}{p:Nat},ks[p]? = some h->(Hd.blocksL ks).Nodup->h.blocks.Nodup
 | [],_,e,_=>by simp at e
 |x::ks,p,e,hn=>by
  simp only[Hd.blocksL,jfq]at hn;cases p with
  |zero=>simp at e;subst e;exact hn.1
  |succ p=>simp at e;exact JM e hn.2.1
theorem Qp{w w':World}{kid:Hd}{l:Nat}{ys r0:Xc}(hk:jf w' true l r0 kid):∀{ks:List Hd}{as:Xd}{vs:Xh}{p:Nat},jy w as vs ks->(Hd.blocksL ks).Nodup->ks[p]? = some kid->as[p]? = some (.sl l ys)->
  (∀b∈Hd.blocksL ks,b ∉ kid.blocks->w'.heap[b]? = w.heap[b]?)->jy w' (as.set p (.sl l r0)) vs ks
 | [],_,_,_,_,_,e,_,_=>by simp at e
 |h::hs,_,_,p,hr,hn,e1,e2,hw=>by
  obtain⟨a,as',v,vs',rfl,rfl,h3,h4⟩:=ju.1 hr;simp only[Hd.blocksL,jfq]at hn;obtain⟨n1,n2,n3⟩:=hn;cases p with
  |zero=>
   simp at e1 e2;subst e1 e2;refine ju.2 ⟨.sl l r0,as',v,vs',rfl,rfl,⟨h3.1,hk⟩,jke hs (λb hb=>hw b (by simp[Hd.blocksL,hb]) λhb'=>n3 b hb' b hb rfl) h4⟩
  |succ p=>
   simp at e1 e2;refine ju.2 ⟨a,as'.set p (.sl l r0),v,vs',rfl,rfl,?_,Qp hk h4 n2 e1 e2 λb hb hn=>hw b (by simp[Hd.blocksL,hb]) hn⟩;cases a with
   |val x=>exact h3
   |sl k xs=>exact⟨h3.1,yN h (λb hb=>hw b (by simp[Hd.blocksL,hb]) λhb'=>n3 b hb b (kz e1 hb') rfl) h3.2⟩
   |top=>exact h3
   |_=>exact h3.elim
def JF(id i k j:Nat):V->Option V
 |.d a=>some (.d a)
 |.sub id' i' k' j'=>if Nat.beq id' id && Nat.beq i' i && Nat.beq k' k && Nat.beq j' j then some (.row 0)else none
 |_=>none
def zQ(id i k j:Nat):Xj->Option Xj
 | []=>some []
 |v::vs=>match JF id i k j v,zQ id i k j vs with
  |some v',some vs'=>some (v'::vs')
  |_,_=>none
theorem Q1{w:World}{O O':Nat->Prop}{m m1:jq}{id i k j:Nat}(hO:∀b,O' b->O b)(hk:∀v,relV w O m (.sub id i k j) v->relV w O' m1 (.row 0) v){v v':V}{u:Value}(h:JF id i k j v=some v')(hr:relV w O m v u):relV w O' m1 v' u:=by
 unfold JF at h;split at h
 .cases h;simp only[relV]at hr⊢;exact js (MonoW.sub hO) _ _ hr
 .split at h
  .rename_i hb;cases h;simp only[jbX]at hb;obtain⟨⟨⟨e1,e2⟩,e3⟩,e4⟩:=hb;have e1:=jah e1;have e2:=jah e2;have e3:=jah e3;have e4:=jah e4;subst e1 e2 e3 e4;exact hk u hr
  .cases h
 .cases h
theorem K1{w:World}{O O':Nat->Prop}{m m1:jq}{id i k j:Nat}(hO:∀b,O' b->O b)(hk:∀v,relV w O m (.sub id i k j) v->relV w O' m1 (.row 0) v):∀{vs vs':Xj}{us:Xh},zQ id i k j vs=some vs'->ja w O m vs us->ja w O' m1 vs' us
 | [],vs',us,h,hr=>by simp only[zQ]at h;cases h;simpa[ja]using hr
 |v::vs,vs',us,h,hr=>by
  simp only[zQ]at h;split at h
  .rename_i v1 vs1 h1 h2;cases h;simp only[ja]at hr⊢;obtain⟨u,r,rfl,g1,g2⟩:=hr;exact⟨u,r,rfl,Q1 hO hk h1 g1,K1 hO hk h2 g2⟩
  .cases h
theorem jl.subcall{P:Program}{X:Ctx}{o:Oper}{ρ:Operand->V}{f:Operand}{xs0:Array Operand}{ts:Array TypeId}(ho:o.op = .call { callee:= .value f,args:=xs0,argTypes:=ts }){g:FuncId}{vs vs2:Xj}{sg:SigA}{out:Out}{l:Nat}{ys:Xc}
  (hp:SOk X P g vs2 [.tre true l ys] sg out) (hws:sg.ws=[.io 0]) (hnw:sg.nw=[]) (hks:sg.ks=[l+64]) (h128:Nat.blt (l+64) 128=true)
  {id i k j:Nat} {cs:Xd} (hcs:cs[j]? = some (.sl l ys)) (hsub:zQ id i k j vs=some vs2)
  (hargs:∀(w:World)(O0:Nat->Prop)(m:jq)(st:jb)(ev:Operand->Value),Sto X w O0 m st->(∀x∈o.op.operands,relV w (Ow O0 m st) m (ρ x) (ev x))->
   ∃us:Xh,ev f = .func (.func g) #[] us.toArray/\ja w (Ow O0 m st) m vs (xs0.toList.map ev++us))
  {as:Xd} {r0:Xc} (hh:HolesOk sg out as [r0]) :
  jl P X o ρ ⟨bk [] (sg.r.toV as),[.telem id true i k cs],[.elem id i (cs.set j (.sl l r0))]⟩:=by
 intro w O0 m st ev hs hg hr _hc;obtain⟨us,h1,h2⟩:=hargs w O0 m st ev hs hr;obtain⟨xs,g1,g2⟩:=hg (.telem id true i k cs) (by simp);have hal:(st id).alive=true:=by rw[g1];rfl
 have hob:=hs.obj id;rw[g1]at hob;obtain⟨hd,hm,hok,hnd⟩:=hob;cases hd with
 |none=>simp only[jf]at hok;subst hok;simp at g2
 |blk b c n=>simp[jf]at hok
 |mp=>simp[jf]at hok
 |tre f' b c n ks=>
  have hok0:=hok;simp only[jf]at hok;obtain⟨rfl,rfl,p3,p4,p5,cc,T,p6,p7,p8,p9⟩:=hok;have hcl:cs.length=k:=p5 cs (jec g2);have hjk:j<k:=by rw[<-hcl];exact(jeM.1 hcs).1
  have hfl:=(jQ p5 g2 hjk).trans hcs;obtain⟨kid,v0,e1,e2,e3⟩:=yM p9 hfl;obtain⟨e4,e5⟩:hdr kid v0/\jf w true l ys kid:=e3;simp only[Hd.blocks,jfP]at hnd;obtain⟨hnb,hnks⟩:=hnd;have kin:∀b'∈kid.blocks,b'∈(Hd.tre true b c xs.length ks).blocks:=λb' hb=>by simp only[Hd.blocks,ja1];exact Or.inr (kz e1 hb)
  have kblk:∀b'∈kid.blocks,b'<w.heap.size/\ ¬O0 b':=λb' hb=>hs.blk id _ b' hal hm (kin b' hb);generalize hm1:((λq=>if q=0 then some kid else none):jq)=m1;have m10:m1 0=some kid:=by rw[<-hm1];rfl
  have m1s:∀q,q≠0->m1 q=none:=λq hq=>by rw[<-hm1];simp[hq]
  generalize hO':(λb'=>Ow O0 m st b'/\b' ∉ kid.blocks)=O';have st10:jp [Abs.Obj.tre true l ys] 0 = .tre true l ys:=rfl;have st1s:∀q,q≠0->jp [Abs.Obj.tre true l ys] q = .dead:=λq hq=>zX (by simp;omega);have mz1:∀b',Mz m1 (jp [Abs.Obj.tre true l ys]) b'↔b'∈kid.blocks:=λb'=>by
   constructor
   .rintro ⟨q,h,a1,a2,a3⟩;by_cases hq:q=0
    .subst hq;rw[m10]at a2;cases a2;exact a3
    .rw [m1s q hq]at a2;cases a2
   .intro hb;exact⟨0,kid,rfl,m10,hb⟩
  have hOw:∀b',Ow O' m1 (jp [Abs.Obj.tre true l ys]) b'->Ow O0 m st b':=by
   rintro b' (h|h)
   .rw [<-hO']at h;exact h.1
   .exact Or.inr ⟨id,_,hal,hm,kin b' ((mz1 b').1 h)⟩
  have hsc:Sto X w O' m1 (jp [Abs.Obj.tre true l ys]):=by
   refine⟨hs.j,λb' hb=>?_,λq hq=>?_,λb' hb=>?_,λq h b' a1 a2 a3=>?_,λq q' h h' b' a1 a2 a3 a4 _ _=>?_,λq=>?_⟩
   .rw [<-hO'];exact⟨Or.inl (hs.jn b' hb),λhb'=>(kblk b' hb').2 (hs.jn b' hb)⟩
   .by_cases h0:q=0
    .subst h0;cases hq
    .exact m1s q h0
   .rw [<-hO']at hb;rcases hb.1 with h|⟨q,h,a1,a2,a3⟩
    .exact hs.old b' h
    .exact (hs.blk q h b' a1 a2 a3).1
   .by_cases h0:q=0
    .subst h0;rw[m10]at a2;cases a2;exact⟨(kblk b' a3).1,λh=>by rw[<-hO']at h;exact h.2 a3⟩
    .rw [m1s q h0]at a2;cases a2
   .by_cases h0:q=0
    .by_cases h0':q'=0
     .rw [h0,h0']
     .rw [m1s q' h0']at a4;cases a4
    .rw [m1s q h0]at a3;cases a3
   .by_cases h0:q=0
    .subst h0;rw[m10];exact⟨kid,rfl,e5,JM e1 hnks⟩
    .rw [st1s q h0];trivial
  have hrel:=K1 (w:=w) (O:=Ow O0 m st) (O':=Ow O' m1 (jp [Abs.Obj.tre true l ys])) (m:=m) (m1:=m1) hOw (λv hv=>by
   simp only[relV]at hv⊢;obtain⟨h,a1,a2⟩:=hv;rw[hm]at a1;cases a1;obtain⟨kid',a3,a4⟩:=a2;rw[e1]at a3;cases a3;exact⟨kid,m10,a4.1⟩) hsub h2
  rw[jP ho h1 hp.1 w];refine⟨rfl,(hp.2 w _ _ _ hsc (λq hq=>by
   have:q=0:=by simpa using hq
   subst this;exact⟨kid,m10,yO e5⟩) hrel).mono ?_⟩
  rintro e w' ⟨v,rfl,as',rs',mc',hh',⟨q1,q2,q3,q4⟩,hkeep,hnew,hsame,hs',hv⟩;obtain⟨rfl,rfl⟩:=hh.eq hh';have hobjs:sg.objs as' [r0]=[Abs.Obj.tre true l r0]:=by
   have:Nat.blt (l+64) 64=false:=by
    cases hc:Nat.blt (l+64) 64 with
    |false=>rfl
    |true=>rw[jeu]at hc;omega
   have h8:Nat.blt (l+64) 256=true:=by rw[jeu]at h128⊢;omega
   have h9:Nat.beq (l+64) 128=false:=by
    cases h:Nat.beq (l+64) 128 with
    |false=>rfl
    |true=>rw[jeu,jah h]at h128;omega
   simp[SigA.objs,SigA.objsB,hws,hnw,hks,OW.toO,JC,zo,zf,this,h8,h9]
  rw[hobjs]at hnew hs' hv;have mc0:mc' 0=some kid:=(hsame 0 (by simp)).trans m10;have hkeep:∀b',b'<w.heap.size->b' ∉ kid.blocks->w'.heap[b']? = w.heap[b']? :=λb' hb hn=>hkeep b' hb λh=>hn ((mz1 b').1 h);have hk':jf w' true l r0 kid:=by
   have:=hs'.obj 0;rw[show jp [Abs.Obj.tre true l r0] 0 = .tre true l r0 from rfl,mc0]at this;obtain⟨hd',a1,a2,_⟩:=this;cases a1;exact a2
  dsimp only[ko];refine⟨v,rfl,m,?_⟩;have hst2:ji st [.elem id i (cs.set j (.sl l r0))]=upd st id (.tre true k (xs.set i (cs.set j (.sl l r0)))):=by
   show upd st id (Wr.on _ (st id))=_;rw[g1];rfl
  rw[hst2];have al2:∀q,(upd st id (.tre true k (xs.set i (cs.set j (.sl l r0)))) q).alive=(st q).alive:=λq=>by
   by_cases h0:q=id
   .subst h0;rw[jc,hal];rfl
   .rw [upd_ne _ _ h0]
  have hmz:∀b',Mz m (upd st id (.tre true k (xs.set i (cs.set j (.sl l r0))))) b'->Mz m st b':=by
   rintro b' ⟨q,h,a1,a2,a3⟩;exact⟨q,h,by rw[<-al2];exact a1,a2,a3⟩
  have hchg:Chg w m st w' m (upd st id (.tre true k (xs.set i (cs.set j (.sl l r0))))):=
   ⟨q1,q2,q3,q4,λb' hb hn=>hkeep b' hb λhk=>hn ⟨id,_,hal,hm,kin b' hk⟩,yp.refl m,λb' hb=>Or.inl (hmz b' hb)⟩
  have hbr:w'.heap[b]? = w.heap[b]? :=hkeep b (jeT.1 p6).1 λh=>hnb (kz e1 h);refine⟨hchg,hs.chg hchg ?_ (λq h b' a1 a2 _=>Or.inl ⟨by rw[<-al2];exact a1,a2⟩) (λq q' h h' b' a1 a2=>hs.inj q q' h h' b' (by rw[<-al2];exact a1) (by rw[<-al2];exact a2)) ?_,?_⟩
  .intro q hq;by_cases h0:q=id
   .subst h0;rw[jc]at hq;cases hq
   .rw [upd_ne _ _ h0]at hq;exact hs.fresh q hq
  .intro q;by_cases h0:q=id
   .subst h0;right;rw[jc,hm];refine⟨_,rfl,?_,by simp only[Hd.blocks,jfP];exact⟨hnb,hnks⟩⟩;have hov:cs.set j (.sl l r0)=over cs j [.sl l r0]:=by
     have:=zt (cs:=cs) (off:=j) (d:=A.sl l r0) (ds:=[]) (by simp;omega)
     rw[<-this];simp[over]
    have hfo:(xs.set i (cs.set j (.sl l r0))).flatten=xs.flatten.set (i*k+j) (.sl l r0):=by
     have hlt:=(jeM.1 hfl).1;have:=zt (cs:=xs.flatten) (off:=i*k+j) (d:=A.sl l r0) (ds:=[]) (by simp only[jfJ,jfg];omega);rw[hov,jF xs i j cs [.sl l r0] p5 g2 (by simp;omega),<-this];simp[over]
    simp only[jf];refine⟨trivial,by simp,by simpa using p3,p4,?_,cc,T,by rw[hbr];exact p6,p7,by simpa using p8,?_⟩
    .intro y hy;rcases jfQ hy with hy|rfl
     .exact p5 y hy
     .simpa using hcl
    .rw [hfo,jfz];exact Qp hk' p9 hnks e1 hfl λb' hb hn=>hkeep b' ((hs.blk q _ b' hal hm (by simp only[Hd.blocks,ja1];exact Or.inr hb)).1) hn
   .rw [upd_ne _ _ h0];refine Or.inl ⟨rfl,rfl,λh b' a1 a2 a3=>hkeep b' (hs.blk q h b' a1 a2 a3).1 λhk=>h0 (hs.inj q id h _ b' a1 hal a2 hm a3 (kin b' hk))⟩
  .refine Km (MonoW.sub λb' hb=>?_) (λq id' hq=>by simp at hq) _ _ hv;by_cases hk:b'∈kid.blocks
   .exact Or.inr ⟨0,kid,rfl,mc0,hk⟩
   .refine Or.inl ?_;rw[<-hO'];exact⟨hb.imp (λh=>h) (hmz b'),hk⟩
end
noncomputable section
theorem jr:∀(a b:List Hd),Hd.blocksL (a++b)=Hd.blocksL a++Hd.blocksL b
 | [],b=>by simp[Hd.blocksL]
 |h::a,b=>by simp[Hd.blocksL,jr a b,jet]
theorem jkt{w:World} :∀{ks:List Hd}{as:Xd}{vs:Xh}{ks':List Hd}{as':Xd}{vs':Xh},jy w as vs ks->jy w as' vs' ks'->jy w (as++as') (vs++vs') (ks++ks')
 | [],_,_,_,_,_,h,h'=>by simp only[jy]at h;obtain⟨rfl,rfl⟩:=h;simpa using h'
 |h::hs,_,_,_,_,_,hr,h'=>by
  obtain⟨a,as1,v,vs1,rfl,rfl,h3,h4⟩:=ju.1 hr;exact ju.2 ⟨a,_,v,_,rfl,rfl,h3,jkt h4 h'⟩
theorem ZS{w:World} :∀{ks:List Hd}{as:Xd}{vs:Xh}(n:Nat),jy w as vs ks->jy w (as.take n) (vs.take n) (ks.take n)
 |ks,as,vs,0,_=>by simp[jy]
 | [],_,_,n+1,h=>by simp only[jy]at h;obtain⟨rfl,rfl⟩:=h;simp[jy]
 |h::hs,_,_,n+1,hr=>by
  obtain⟨a,as1,v,vs1,rfl,rfl,h3,h4⟩:=ju.1 hr;simp only[jfR];exact ju.2 ⟨a,_,v,_,rfl,rfl,h3,ZS n h4⟩
theorem ZP{w:World} :∀{ks:List Hd}{as:Xd}{vs:Xh}(n:Nat),jy w as vs ks->jy w (as.drop n) (vs.drop n) (ks.drop n)
 |ks,as,vs,0,h=>by simpa using h
 | [],_,_,n+1,h=>by simp only[jy]at h;obtain⟨rfl,rfl⟩:=h;simp[jy]
 |h::hs,_,_,n+1,hr=>by
  obtain⟨a,as1,v,vs1,rfl,rfl,h3,h4⟩:=ju.1 hr;simpa using ZP n h4
theorem Q2{w:World}{ks kids:List Hd}{as ds:Xd}{vs us:Xh}{p:Nat}(h:jy w as vs ks)(k:jy w ds us kids):jy w (over as p ds) (over vs p us) (over ks p kids):=by
 obtain⟨l1,l2⟩:=Jl k;unfold over;rw[l1,l2];exact jkt (jkt (ZS p h) k) (ZP _ h)
theorem qJ{ks:List Hd}{n b:Nat}(h:b∈Hd.blocksL (ks.take n)):b∈Hd.blocksL ks:=by
 rw[<-jfK n ks,jr];exact jfv _ h
theorem jla{ks:List Hd}{n b:Nat}(h:b∈Hd.blocksL (ks.drop n)):b∈Hd.blocksL ks:=by
 rw[<-jfK n ks,jr];exact jfZ _ h
theorem z6{ks kids:List Hd}{p b:Nat}(h:b∈Hd.blocksL (over ks p kids)):b∈Hd.blocksL ks\/b∈Hd.blocksL kids:=by
 unfold over at h;rw[jr,jr]at h;rcases jeO.1 h with h|h
 .rcases jeO.1 h with h|h
  .exact Or.inl (qJ h)
  .exact Or.inr h
 .exact Or.inl (jla h)
theorem QL{ks kids:List Hd}{p:Nat}(h:(Hd.blocksL ks).Nodup)(k:(Hd.blocksL kids).Nodup)(d:∀b∈Hd.blocksL kids,b ∉ Hd.blocksL ks):(Hd.blocksL (over ks p kids)).Nodup:=by
 unfold over;rw[jr,jr];have hq:ks.drop (p+kids.length)=(ks.drop p).drop kids.length:=by rw[List.drop_drop]
 have h0:=h;rw[<-jfK p ks,jr,jfq]at h0;obtain⟨n1,n2,n3⟩:=h0;have h1:=n2;rw[<-jfK kids.length (ks.drop p),jr,jfq]at h1;refine jfq.2 ⟨jfq.2 ⟨n1,k,λa ha b hb e=>?_⟩,?_,λa ha b hb e=>?_⟩
 .subst e;exact d a hb (qJ ha)
 .rw [hq];exact h1.2.1
 .subst e;rcases jeO.1 ha with ha|ha
  .rw [hq]at hb;exact n3 a ha a (jla hb) rfl
  .exact d a ha (jla hb)
def jbq(st:jb):V->Option (A×Xf×Xm)
 |.d a=>some (a,[],[])
 |.nil l=>some (.sl l [],[],[])
 |.row id=>(match st id with
  |.tre f l ys=>some (.sl l ys,[id],[.obj id (.tre f l ys)])
  |_=>none)
 |_=>none
def qW(st:jb):Xj->Option (Xd×Xf×Xm)
 | []=>some ([],[],[])
 |v::vs=>match jbq st v,qW st vs with
  |some (a,i,r),some (as,is,rs)=>some (a::as,i++is,r++rs)
  |_,_=>none
def qV(m:jq):V->Hd
 |.row id=>((m id).getD .none).freeze
 |_=>.none
def yo:Xj->Bool
 | []=>true
 |.d a::vs=>jZ a && yo vs
 |_::vs=>yo vs
section
variable{X:Ctx}{w:World}{O0:Nat->Prop}{m:jq}{st st0:jb}
theorem jcm(hs:Sto X w O0 m st){v:V}{a:A}{is:Xf}{rs:Xm}{u:Value}(h:jbq st0 v=some (a,is,rs))(hg:∀r∈rs,jC st r)(hv:∀a,v = .d a->jZ a=true)(hr:relV w (Ow O0 m st) m v u) :
  jbS w (qV m v) a u/\u.oneCell'=true/\(∀b∈(qV m v).blocks,∃id∈is,∃hd,(st id).alive=true/\m id=some hd/\b∈hd.blocks)/\(qV m v).blocks.Nodup/\(∀id∈is,(st id).alive=true):=by
 unfold jbq at h;split at h
 .cases h;obtain⟨x,rfl,hk⟩:=jjV (hv _ rfl);simp only[relV]at hr;have h1:=zK hr hk;simp only[rel]at hr;exact⟨⟨rfl,hr⟩,h1,λb hb=>by simp[qV,Hd.blocks]at hb,by simp[qV,Hd.blocks],by simp⟩
 .cases h;simp only[relV]at hr;obtain⟨p,rfl⟩:=hr;exact⟨⟨⟨p,rfl⟩,by simp[qV,jf]⟩,rfl,λb hb=>by simp[qV,Hd.blocks]at hb,by simp[qV,Hd.blocks],by simp⟩
 .split at h
  .rename_i id _ f l ys _;cases h;have hst:st id = .tre f l ys:=hg _ (jdC.2 rfl);simp only[relV]at hr;obtain⟨hd,e1,e2⟩:=hr;obtain⟨q1,q2⟩:=zR hs hst e1;have hk:qV m (.row id)=hd.freeze:=by simp[qV,e1]
   rw[hk,Hd.freeze_blocks];obtain⟨p,n,c,rfl⟩:=yU (yj q1) e2;exact⟨⟨hd.le_freeze.hdr e2,yi q1⟩,rfl,λb hb=>⟨id,by simp,hd,by rw[hst];rfl,e1,hb⟩,q2,λi hi=>by rw[jdC.1 hi,hst];rfl⟩
  .cases h
 .cases h
theorem YU(hs:Sto X w O0 m st):∀{vs:Xj}{as:Xd}{is:Xf}{rs:Xm}{us:Xh},qW st0 vs=some (as,is,rs)->(∀r∈rs,jC st r)->yo vs=true->is.Nodup->ja w (Ow O0 m st) m vs us->
  jy w as us (vs.map (qV m))/\jd us/\(∀b∈Hd.blocksL (vs.map (qV m)),∃id∈is,∃hd,(st id).alive=true/\m id=some hd/\b∈hd.blocks)/\(Hd.blocksL (vs.map (qV m))).Nodup/\(∀id∈is,(st id).alive=true)
 | [],_,_,_,us,h,_,_,_,hr=>by
  simp only[qW]at h;cases h;simp only[ja]at hr;subst hr;exact⟨by simp[jy],λv hv=>(by cases hv),λb hb=>(by simp[Hd.blocksL]at hb),by simp[Hd.blocksL],by simp⟩
 |v::vs,_,_,_,us,h,hg,hv,hn,hr=>by
  simp only[qW]at h;split at h
  .rename_i a i r as is rs h1 h2;cases h;simp only[ja]at hr;obtain⟨u,us',rfl,r1,r2⟩:=hr;rw[jfq]at hn;obtain⟨n1,n2,n3⟩:=hn;obtain⟨p1,p2,p3,p4,p5⟩:=jcm hs h1 (λx hx=>hg x (by simp[hx])) (λa e=>by subst e;simp only[yo,jbX]at hv;exact hv.1) r1;have hv':yo vs=true:=by cases v<;>simp only[yo,jbX]at hv<;>first|exact hv.2|exact hv
   obtain⟨q1,q2,q3,q4,q5⟩:=YU hs h2 (λx hx=>hg x (by simp[hx])) hv' n2 r2;refine⟨ju.2 ⟨a,as,u,us',rfl,rfl,p1,q1⟩,λx hx=>?_,λb hb=>?_,?_,λid hid=>?_⟩
   .rcases ja1.1 hx with rfl|hx
    .exact p2
    .exact q2 x hx
   .simp only[jd1,Hd.blocksL,jeO]at hb;rcases hb with hb|hb
    .obtain ⟨id,hi,hd,e1,e2,e3⟩:=p3 b hb;exact⟨id,by simp[hi],hd,e1,e2,e3⟩
    .obtain ⟨id,hi,hd,e1,e2,e3⟩:=q3 b hb;exact⟨id,by simp[hi],hd,e1,e2,e3⟩
   .simp only[jd1,Hd.blocksL];refine jfq.2 ⟨p4,q4,λx hx y hy e=>?_⟩;subst e;obtain⟨id,hi,hd,e1,e2,e3⟩:=p3 x hx;obtain⟨id',hi',hd',e1',e2',e3'⟩:=q3 x hy;have:=hs.inj id id' hd hd' x e1 e1' e2 e2' e3 e3';exact n3 id hi id' hi' this
   .rcases jeO.1 hid with h|h
    .exact p5 id h
    .exact q5 id h
  .cases h
end
def jG(is:Xf):Xn:=is.map λi=>.obj i .gone
theorem zU:∀(is:Xf)(st:jb)(q:Nat),ji st (jG is) q=if q∈is then .gone else st q
 | [],st,q=>by simp[jG,ji]
 |i::is,st,q=>by
  show ji (app st (.obj i .gone)) (jG is) q=_;rw[zU is];by_cases h:q∈is
  .simp [h]
  .rw [ja0 h];show upd st i .gone q=_;by_cases e:q=i
   .subst e;rw[jc];simp
   .rw [upd_ne _ _ e];simp[e,h]
section
variable{P:Program}{X:Ctx}{o:Oper}{ρ:Operand->V}
theorem jl.storeKids{t:TypeId}{a x:Operand}(ho:o.op = .store t a x){i:TI}(hi:TI.ok P t i){id ii k j:Nat}(ha:ρ a = .rptr id ii k j){cs:Xd}{ds:Xj}{st0:jb}{as:Xd}{is:Xf}{rs:Xm}
  (hx:∀(w:World)(O:Nat->Prop)(m:jq)(u:Value),relV w O m (ρ x) u->ja w O m ds u.cells.toList) (hk:qW st0 ds=some (as,is,rs)) (hv:yo ds=true) (hn:is.Nodup) (hid:id ∉ is) (hsz:ds.length=i.size) (hl:j+ds.length<=k) :
  jl P X o ρ ⟨.d (.val undef),.telem id false ii k cs::rs,jG is++[.elem id ii (over cs j as)]⟩:=by
 intro w O0 m st ev hs hg hr _hc;have ha':=hr a (by simp[ho,Op.operands]);have hx':=hr x (by simp[ho,Op.operands]);rw[ha]at ha';simp only[relV]at ha';obtain⟨hd,b,h0,h1,h2⟩:=ha';have h3:=hx _ _ _ _ hx';obtain⟨xs,g1,g2⟩:=hg (.telem id false ii k cs) (by simp);obtain⟨q3,qn⟩:=zR hs g1 h0;obtain⟨t1,hone,t3,t4,t5⟩:=YU hs hk (λr hr=>hg r (by simp[hr])) hv hn h3;generalize hkids:ds.map (qV m)=kids at t1 t3 t4;have hkl:kids.length=ds.length:=by rw[<-hkids];simp
 obtain⟨la,lu⟩:=Jl t1;cases hd with
 |none=>cases h1
 |blk b' c n=>simp[jf]at q3
 |mp=>simp[jf]at q3
 |tre f' b' c n ks=>
  cases h1;simp only[jf]at q3;obtain⟨rfl,rfl,p3,p4,p5,cc,T,p6,p7,p8,p9⟩:=q3;simp only[Hd.blocks,jfP]at qn;obtain⟨nb,nks⟩:=qn;have hcl:cs.length=k:=p5 cs (jec g2);have hii:ii<xs.length:=(jeM.1 g2).1;have hfit:ii*k+j+ds.length<=xs.length*k:=by
   have:(ii+1)*k<=xs.length*k:=jeS k (by omega);rw[jb5]at this;omega
  have hcap:xs.length*k<=cc.size:=by rw[p7];exact jeS k p3
  have hal:(st id).alive=true:=by rw[g1];rfl
  obtain⟨W,hst,w1,w2,w3,w4,w5,w6⟩:=kQ P p6 (ii*k+j) (ev x).cells.toList (by omega) hone;have hrun:(execOp ev o).run P w = .ok .skip W:=by
   have hsize:(ev x).cells.size=i.size:=by rw[<-hsz,<-hkl,<-lu];simp
   simp only[execOp,ho,Instr.storeAt,h2,Instr.sureAddr,storeVar,jbY,jdA,jbW,hi.run_sizeOf w,hsize,ne_eq,not_true_eq_false,if_false,hst]
  rw[hrun];show ko X w O0 m st (jG is++[.elem id ii (over cs j as)]) (.d (.val undef)) W undef;unfold ko;generalize hks':over ks (ii*k+j) kids=ks';generalize hm':upd m id (some (.tre false b c xs.length ks'))=m';have mi:m' id=some (.tre false b c xs.length ks'):=by rw[<-hm'];exact jc _ _ _
  have mo:∀q,q≠id->m' q=m q:=λq hq=>by rw[<-hm'];exact upd_ne _ _ hq
  generalize hx2:xs.set ii (over cs j as)=xs';generalize hst2:ji st (jG is++[.elem id ii (over cs j as)])=st2;have s1:∀q,ji st (jG is) q=if q∈is then .gone else st q:=λq=>zU is st q;have e2:st2=upd (ji st (jG is)) id (.tre false k xs'):=by
   rw[<-hst2];show(jG is++[Wr.elem id ii (over cs j as)]).foldl app st=_;rw[List.foldl_append];show upd (ji st (jG is)) id (Wr.on _ (ji st (jG is) id))=_;rw[s1,ja0 hid,g1];show upd _ id (Abs.Obj.tre false k (Y9 xs ii (over cs j as)))=_;rw[<-hx2];rfl
  have s2i:st2 id = .tre false k xs':=by rw[e2,jc]
  have s2g:∀q,q≠id->q∈is->st2 q = .gone:=λq h h'=>by rw[e2,upd_ne _ _ h,s1,jbZ h']
  have s2o:∀q,q≠id->q ∉ is->st2 q=st q:=λq h h'=>by rw[e2,upd_ne _ _ h,s1,ja0 h']
  have hnewb:∀y,y∈(Hd.tre false b c xs.length ks').blocks->(y∈(Hd.tre false b c xs.length ks).blocks)\/ ∃q∈is,∃hd,(st q).alive=true/\m q=some hd/\y∈hd.blocks:=λy hy=>by
   simp only[Hd.blocks,ja1]at hy⊢;rcases hy with rfl|hy
   .exact Or.inl (Or.inl rfl)
   .rw [<-hks']at hy;rcases z6 hy with hy|hy
    .exact Or.inl (Or.inr hy)
    .exact Or.inr (t3 y hy)
  have hmz:∀y,Mz m' st2 y->Mz m st y:=by
   rintro y ⟨q,h,a1,a2,a3⟩;by_cases hq:q=id
   .subst hq;rw[mi]at a2;cases a2;rcases hnewb y a3 with h|⟨q',_,h',b1,b2,b3⟩
    .exact ⟨q,_,hal,h0,h⟩
    .exact ⟨q',h',b1,b2,b3⟩
   .by_cases hqi:q∈is
    .rw [s2g q hq hqi]at a1;cases a1
    .rw [s2o q hq hqi]at a1;rw[mo q hq]at a2;exact⟨q,h,a1,a2,a3⟩
  have hbm:Mz m st b:=⟨id,_,hal,h0,by simp[Hd.blocks]⟩;have hmle:yp m m':=λq h e=>by
   by_cases hq:q=id
   .subst hq;rw[h0]at e;cases e;exact⟨_,mi,Or.inr ⟨_,_,_,_,_,_,rfl,rfl⟩⟩
   .exact ⟨h,by rw[mo q hq];exact e,h.le_refl⟩
  have hchg:Chg w m st W m' st2:=
   ⟨w1,w2,w3,by omega,λy _ hn=>w5 y λe=>hn (by rw[e];exact hbm),hmle,λy hy=>Or.inl (hmz y hy)⟩
  have hkb:∀y∈Hd.blocksL kids,y ∉ (Hd.tre false b c xs.length ks).blocks:=λy hy hy'=>by
   obtain⟨q,hq,h,b1,b2,b3⟩:=t3 y hy;have:=hs.inj q id h _ y b1 hal b2 h0 b3 hy';subst this;exact hid hq
  refine⟨m',hchg,hs.chg hchg ?_ ?_ ?_ ?_,by simp[relV,rel]⟩
  .intro q hq;by_cases h:q=id
   .subst h;rw[s2i]at hq;cases hq
   .by_cases h':q∈is
    .rw [s2g q h h']at hq;cases hq
    .rw [s2o q h h']at hq;rw[mo q h];exact hs.fresh q hq
  .intro q h y a1 a2 a3;by_cases hq:q=id
   .subst hq;rw[mi]at a2;cases a2;right;rcases hnewb y a3 with h|⟨q',_,h',b1,b2,b3⟩
    .have:=hs.blk q _ y hal h0 h;exact⟨by omega,this.2⟩
    .have:=hs.blk q' _ y b1 b2 b3;exact⟨by omega,this.2⟩
   .by_cases hqi:q∈is
    .rw [s2g q hq hqi]at a1;cases a1
    .rw [s2o q hq hqi]at a1;rw[mo q hq]at a2;exact Or.inl ⟨a1,a2⟩
  .have key:∀q h y,q≠id->(st2 q).alive=true->m' q=some h->y∈h.blocks->y∈(Hd.tre false b c xs.length ks').blocks->False:=by
    intro q h y hq a1 a2 a3 a4;by_cases hqi:q∈is
    .rw [s2g q hq hqi]at a1;cases a1
    .rw [s2o q hq hqi]at a1;rw[mo q hq]at a2;rcases hnewb y a4 with h'|⟨q',hq',h',b1,b2,b3⟩
     .exact hq (hs.inj q id h _ y a1 hal a2 h0 a3 h')
     .have:=hs.inj q q' h h' y a1 b1 a2 b2 a3 b3;subst this;exact hqi hq'
   intro q q' h h' y a1 a1' a2 a2' a3 a3';by_cases hq:q=id
   .by_cases hq':q'=id
    .rw [hq,hq']
    .subst hq;rw[mi]at a2;cases a2;exact(key q' h' y hq' a1' a2' a3' a3).elim
   .by_cases hq':q'=id
    .subst hq';rw[mi]at a2';cases a2';exact(key q h y hq a1 a2 a3 a3').elim
    .by_cases hqi:q∈is
     .rw [s2g q hq hqi]at a1;cases a1
     .by_cases hqi':q'∈is
      .rw [s2g q' hq' hqi']at a1';cases a1'
      .rw [s2o q hq hqi]at a1;rw[s2o q' hq' hqi']at a1';rw[mo q hq]at a2;rw[mo q' hq']at a2';exact hs.inj q q' h h' y a1 a1' a2 a2' a3 a3'
  .intro q;by_cases hq:q=id
   .subst hq;right;rw[s2i,mi];refine⟨_,rfl,?_,?_⟩
    .rw [<-hx2,<-hks'];simp only[jf];refine⟨trivial,by simp,by simpa using p3,p4,?_,_,T,w6,?_,?_,?_⟩
     .intro y hy;rcases jfQ hy with hy|rfl
      .exact p5 y hy
      .rw [jD (by omega)];exact hcl
     .rw [jfF,jD (by have:=hcap;simp only[jeK]at *;omega),jeK];exact p7
     .simp only[jfz];rw[kC _ _ _ _ (by omega) (by simpa using hcap)];exact jd.over p8 hone _
     .rw [jF xs ii j cs as p5 g2 (by omega)];simp only[jfz];rw[kC _ _ _ _ (by omega) (by simpa using hcap)];refine jke _ (λy hy=>w5 y λe=>?_) (Q2 p9 t1);subst e;rcases z6 hy with hy|hy
      .exact nb hy
      .exact hkb y hy (by simp[Hd.blocks])
    .simp only[Hd.blocks,jfP];refine⟨λhy=>?_,?_⟩
     .rw [<-hks']at hy;rcases z6 hy with hy|hy
      .exact nb hy
      .exact hkb b hy (by simp[Hd.blocks])
     .rw [<-hks'];exact QL nks t4 λy hy hy'=>hkb y hy (by simp only[Hd.blocks,ja1];exact Or.inr hy')
   .by_cases hqi:q∈is
    .right;rw[s2g q hq hqi];trivial
    .refine Or.inl ⟨s2o q hq hqi,mo q hq,λh y a1 a2 a3=>w5 y λe=>hq ?_⟩;subst e;exact hs.inj q id h _ y a1 hal a2 h0 a3 (by simp[Hd.blocks])
end
end
noncomputable section
theorem zh:∀n,Hd.blocksL (List.replicate n .none)=[]
 |0=>by simp[Hd.blocksL]
 |n+1=>by simp[jeZ,Hd.blocksL,Hd.blocks,zh n]
def jaY:Xj->Option Xd
 | []=>some []
 |.d (.val x)::vs=>(jaY vs).map (.val x::·)
 |.nil k::vs=>(jaY vs).map (.sl k []::·)
 |_=>none
theorem Kh{w w':World}{O:Nat->Prop}{m:jq} :∀{vs:Xj}{z:Xd}{us:Xh},jaY vs=some z->ja w O m vs us->jy w' z us (List.replicate z.length .none)/\je w' O z us
 | [],z,us,h,hr=>by simp only[jaY]at h;cases h;simp only[ja]at hr;subst hr;simp[jy,je]
 |v::vs,z,us,h,hr=>by
  simp only[ja]at hr;obtain⟨u,r,rfl,h1,h2⟩:=hr;unfold jaY at h;split at h
  .rename_i e;cases e
  .rename_i x vs' e;cases e;obtain⟨z',hz,rfl⟩:=jeq.1 h;obtain⟨g1,g2⟩:=Kh (w':=w') hz h2;simp only[relV,rel]at h1;subst h1;refine⟨?_,?_⟩
   .rw [jfC,jeZ];exact ju.2 ⟨.val u,z',u,r,rfl,rfl,⟨rfl,rfl⟩,g1⟩
   .simp only[je,rel];exact⟨u,r,rfl,rfl,g2⟩
  .rename_i k vs' e;cases e;obtain⟨z',hz,rfl⟩:=jeq.1 h;obtain⟨g1,g2⟩:=Kh (w':=w') hz h2;simp only[relV]at h1;obtain⟨p,rfl⟩:=h1;refine⟨?_,?_⟩
   .rw [jfC,jeZ];exact ju.2 ⟨.sl k [],z',_,r,rfl,rfl,⟨⟨p,rfl⟩,by simp[jf]⟩,g1⟩
   .simp only[je,rel];exact⟨_,r,rfl,⟨p,0,rfl,by simp,by omega,Or.inl trivial⟩,g2⟩
  .cases h
theorem jbH{w:World}{O:Nat->Prop}{z:Xd}{us:Xh}(h:jy w z us (List.replicate z.length .none)):je w O z us:=
 K3 _ (λb hb=>by rw[zh]at hb;cases hb) h
section
variable{P:Program}{X:Ctx}{o:Oper}{ρ:Operand->V}
theorem jl.makeTre{t:TypeId}{x y:Operand}(ho:o.op = .makeSlice t x y){e:Nat}(ht:P.underlying t=some (.slice e)){i:TI}(hi:TI.ok P e i){a b:A}(hx:ρ x = .d a)(hy:ρ y = .d b){kl kc:IntKind}{l c:Int}(ha:a = .val (.int kl l))(hb:b = .val (.int kc c))
  (h0:0<=l) (hlc:l<=c) (hbytes:(i.bytes:Int)*c<=281474976710656) (h63:c<=9223372036854775807) {z:Xd} (hz:∀w O,je w O z i.zero.cells.toList) (hzt:∀w,jy w z i.zero.cells.toList (List.replicate z.length .none)) (hone:jd i.zero.cells.toList) {nid:Nat} :
  jl P X o ρ ⟨.row nid,[.fresh nid],[.obj nid (.tre false i.size (List.replicate l.toNat z))]⟩:=by
 intro w O0 m st ev hst hg hr _hc;have hx':=hr x (by simp[ho,Op.operands]);have hy':=hr y (by simp[ho,Op.operands]);rw[hx,ha]at hx';rw[hy,hb]at hy';simp only[relV,rel]at hx' hy';obtain⟨j,hj,j1,j2,j3⟩:=hi.some_info;have hrun:=run_make (P:=P) w t e j i.zero ht hj j3 kl kc l c h0 hlc (by rw[j2];exact hbytes) h63;have hzl:i.zero.cells.toList.length=i.size:=by simpa using hi.zsize
 have hzl2:z.length=i.size:=by rw[<-jh (hz w λ_=>False)];exact hzl
 have key:∀(n cn:Nat),n<=cn->((madeCells i.zero.cells (cn*i.size)).toList.take (n*i.size))=(List.replicate n i.zero.cells.toList).flatten:=by
  intro n cn hn;apply je9;intro q;by_cases hq:q<n*i.size
  .have hpos:0<i.size:=jf3 λe0=>by rw[e0]at hq;simp at hq
   have h1:(List.replicate n i.zero.cells.toList).flatten[q]? = i.zero.cells.toList[q % i.size]? :=by
    clear hn;induction n generalizing q with
    |zero=>simp at hq
    |succ n ih=>
     rw[jeZ,jdT];by_cases hq2:q<i.size
     .rw [jep (by omega),Nat.mod_eq_of_lt hq2]
     .have hq3:q-i.size<n*i.size:=by
       rw[jb5,jfO]at hq;omega
      have hm2:=Nat.mod_eq_sub_mod (a:=q) (b:=i.size) (by omega);rw[jeU (by omega),hzl,ih (q-i.size) hq3,<-hm2]
   rw[h1,jff,jbZ hq];have hlt:q<cn*i.size:=jfj hq (jeS _ hn);have hm:q % i.size<i.zero.cells.size:=by rw[hi.zsize];exact Nat.mod_lt _ hpos
   simp only[madeCells,jfo,Array.getElem?_map,Array.getElem?_range,hlt,jer,jen,hi.zsize];rw[jfm i.zero.cells (q % i.size) hm,jfh hm]
  .rw [jdS (by simp;omega),jdS]
   simp only[List.length_flatten,List.map_replicate,hzl,jfS];omega
 have hreplT:∀(W:World) n,jy W (List.replicate n z).flatten (List.replicate n i.zero.cells.toList).flatten (List.replicate (n*z.length) .none):=by
  intro W n;induction n with
  |zero=>simp[jy]
  |succ n ih=>
   simp only[jeZ,jdT];rw[Nat.add_one_mul,Nat.add_comm,<-List.replicate_append_replicate];exact jkt (hzt W) ih
 have hones:∀n,jd (List.replicate n i.zero.cells.toList).flatten:=λn v hv=>by
  obtain⟨q,hq,hv⟩:=jfD.1 hv;rw[(jfG.1 hq).2]at hv;exact hone v hv
 have hf:st nid = .dead:=hg (.fresh nid) (by simp);have hex:(execOp ev o).run P w = .ok (.value (.slice (some ⟨w.heap.size,0,none⟩) l.toNat c.toNat)) (w.alloc (.cells (madeCells i.zero.cells (c.toNat*j.size)) e)):=by
  simp[execOp,ho,hx',hy',hrun]
 rw[hex];have hsz:w.heap.size<(w.alloc (.cells (madeCells i.zero.cells (c.toNat*j.size)) e)).heap.size:=by rw[jR];omega
 obtain⟨k1,k2⟩:=J9 hst (jX w (.cells (madeCells i.zero.cells (c.toNat*j.size)) e)) hf (hd:= .tre false w.heap.size c.toNat (List.replicate l.toNat z).length (List.replicate (l.toNat*z.length) .none)) (o:= .tre false i.size (List.replicate l.toNat z)) (λh=>by cases h)
  (λb hb=>by
   simp only[Hd.blocks,zh,jdC]at hb;subst hb;exact⟨jdB _,hsz⟩)
  ⟨_,rfl,by
   simp only[jf];refine⟨trivial,trivial,by simp;omega,by omega,λq hq=>by rw[(jfG.1 hq).2];exact hzl2,_,e,heap_alloc_new w _,by rw[size_madeCells,j1],?_,?_⟩
   .rw [jfA,j1,key _ _ (by omega)];exact hones _
   .rw [jfA,j1,key _ _ (by omega)];exact hreplT _ _,by simp[Hd.blocks,zh]⟩
 exact⟨_,k1,k2,by simp only[relV];exact⟨_,jc _ _ _,by simp[hdr]⟩⟩
end
end
noncomputable section
def qZ:Xd->List Hd
 | []=>[]
 |_::as=>.none::qZ as
theorem KH:∀(as:Xd),∀h∈qZ as,h = .none
 | [],_,hm=>by simp[qZ]at hm
 |_::as,h,hm=>by
  rcases ja1.1 hm with rfl|hm
  .rfl
  .exact KH as h hm
theorem z7:∀(as:Xd),Hd.blocksL (qZ as)=[]
 | []=>rfl
 |_::as=>by simp[qZ,Hd.blocksL,Hd.blocks,z7 as]
theorem JH{w:World}{O:Nat->Prop} :∀{as:Xd}{vs:Xh},as.all jZ=true->je w O as vs->jy w as vs (qZ as)
 | [],vs,_,h=>by simp only[je]at h;subst h;simp[qZ,jy]
 |a::as,vs,ha,h=>by
  simp only[jev,jbX]at ha;simp only[je]at h;obtain⟨v,r,rfl,h1,h2⟩:=h;rw[qZ];refine ju.2 ⟨a,as,v,r,rfl,rfl,?_,JH ha.2 h2⟩;cases a with
  |val x=>simp only[rel]at h1;exact⟨rfl,h1⟩
  |_=>simp[jZ]at ha
theorem KR{w:World}{O:Nat->Prop} :∀{ks:List Hd}{as:Xd}{vs:Xh},(∀h∈ks,h = .none)->jy w as vs ks->je w O as vs
 | [],as,vs,_,h=>by
  simp only[jy]at h;obtain⟨rfl,rfl⟩:=h;simp[je]
 |h::hs,as,vs,hn,hr=>by
  obtain⟨a,as',v,vs',rfl,rfl,h3,h4⟩:=ju.1 hr;have hh:=hn h (by simp);subst hh;simp only[je];refine⟨v,vs',rfl,?_,KR (λh hm=>hn h (by simp[hm])) h4⟩;cases a with
  |val x=>simp only[rel];exact h3.2
  |sl k xs=>
   obtain⟨⟨a,rfl⟩,h6⟩:=h3;simp only[jf]at h6;subst h6;simp only[rel];exact⟨a,0,rfl,by simp,by omega,Or.inl trivial⟩
  |top=>simp only[rel]
  |_=>exact h3.elim
def jmF(id:Nat):V->Option V
 |.d a=>some (.d a)
 |.row id'=>if Nat.beq id' id then some (.row 0)else none
 |_=>none
def zG(id:Nat):Xj->Option Xj
 | []=>some []
 |v::vs=>match jmF id v,zG id vs with
  |some v',some vs'=>some (v'::vs')
  |_,_=>none
theorem Qn{w:World}{O O':Nat->Prop}{m m1:jq}{id:Nat}(hO:∀b,O' b->O b)(hk:∀v,relV w O m (.row id) v->relV w O' m1 (.row 0) v){v v':V}{u:Value}(h:jmF id v=some v')(hr:relV w O m v u):relV w O' m1 v' u:=by
 unfold jmF at h;split at h
 .cases h;simp only[relV]at hr⊢;exact js (MonoW.sub hO) _ _ hr
 .split at h
  .rename_i hb;cases h;have e1:=jah hb;subst e1;exact hk u hr
  .cases h
 .cases h
theorem K2{w:World}{O O':Nat->Prop}{m m1:jq}{id:Nat}(hO:∀b,O' b->O b)(hk:∀v,relV w O m (.row id) v->relV w O' m1 (.row 0) v):∀{vs vs':Xj}{us:Xh},zG id vs=some vs'->ja w O m vs us->ja w O' m1 vs' us
 | [],vs',us,h,hr=>by simp only[zG]at h;cases h;simpa[ja]using hr
 |v::vs,vs',us,h,hr=>by
  simp only[zG]at h;split at h
  .rename_i v1 vs1 h1 h2;cases h;simp only[ja]at hr⊢;obtain⟨u,r,rfl,g1,g2⟩:=hr;exact⟨u,r,rfl,Qn hO hk h1 g1,K2 hO hk h2 g2⟩
  .cases h
def Hd.asTre(as:Xd):Hd->Hd
 |.blk b c n=>.tre true b c n (qZ as)
 |h=>h
theorem jl.flatcall{P:Program}{X:Ctx}{o:Oper}{ρ:Operand->V}{f:Operand}{xs0:Array Operand}{ts:Array TypeId}(ho:o.op = .call { callee:= .value f,args:=xs0,argTypes:=ts }){g:FuncId}{vs vs2:Xj}{sg:SigA}{out:Out}{l:Nat}{ys:Xc}
  (hp:SOk X P g vs2 [.tre true l ys] sg out) (hws:sg.ws=[.io 0]) (hnw:sg.nw=[]) (hks:sg.ks=[l+64]) (h128:Nat.blt (l+64) 128=true)
  {id:Nat} (hval:ys.flatten.all jZ=true) (hsub:zG id vs=some vs2)
  (hargs:∀(w:World)(O0:Nat->Prop)(m:jq)(st:jb)(ev:Operand->Value),Sto X w O0 m st->(∀x∈o.op.operands,relV w (Ow O0 m st) m (ρ x) (ev x))->
   ∃us:Xh,ev f = .func (.func g) #[] us.toArray/\ja w (Ow O0 m st) m vs (xs0.toList.map ev++us))
  {as:Xd} {r0:Xc} (hh:HolesOk sg out as [r0]) :
  jl P X o ρ ⟨bk [] (sg.r.toV as),[.obj id (.row l ys)],[.obj id (.row l r0)]⟩:=by
 intro w O0 m st ev hs hg hr _hc;obtain⟨us,h1,h2⟩:=hargs w O0 m st ev hs hr;have g1:st id = .row l ys:=hg (.obj id (.row l ys)) (by simp);have hal:(st id).alive=true:=by rw[g1];rfl
 have hob:=hs.obj id;rw[g1]at hob;obtain⟨hd,hm,hok⟩:=hob;have hkb:(hd.asTre ys.flatten).blocks=hd.blocks:=by
  cases hd with
  |none=>rfl
  |blk b c n=>simp[Hd.asTre,Hd.blocks,z7]
  |tre=>simp[rowOk]at hok
  |mp=>simp[rowOk]at hok
 have hnd:hd.blocks.Nodup:=by
  cases hd with
  |none=>simp[Hd.blocks]
  |blk b c n=>simp[Hd.blocks]
  |tre=>simp[rowOk]at hok
  |mp=>simp[rowOk]at hok
 have e5:jf w true l ys (hd.asTre ys.flatten):=by
  cases hd with
  |none=>simpa[Hd.asTre,jf,rowOk]using hok
  |tre=>simp[rowOk]at hok
  |mp=>simp[rowOk]at hok
  |blk b c n=>
   simp only[rowOk]at hok;obtain⟨p1,p2,p3,p4,cc,T,p5,p6,p7,p8⟩:=hok;simp only[Hd.asTre,jf];exact⟨trivial,p1,p2,p3,p4,cc,T,p5,p6,p7,JH hval p8⟩
 have ehdr:∀v,hdr hd v->hdr (hd.asTre ys.flatten) v:=λv hv=>by
  cases hd with
  |none=>exact hv
  |blk=>exact hv
  |tre=>exact hv
  |mp=>exact hv
 generalize hkid:hd.asTre ys.flatten=kid at *;have kblk:∀b'∈kid.blocks,b'<w.heap.size/\ ¬O0 b':=λb' hb=>hs.blk id _ b' hal hm (by rw[<-hkb];exact hb);generalize hm1:((λq=>if q=0 then some kid else none):jq)=m1;have m10:m1 0=some kid:=by rw[<-hm1];rfl
 have m1s:∀q,q≠0->m1 q=none:=λq hq=>by rw[<-hm1];simp[hq]
 generalize hO':(λb'=>Ow O0 m st b'/\b' ∉ kid.blocks)=O';have st10:jp [Abs.Obj.tre true l ys] 0 = .tre true l ys:=rfl;have st1s:∀q,q≠0->jp [Abs.Obj.tre true l ys] q = .dead:=λq hq=>zX (by simp;omega);have mz1:∀b',Mz m1 (jp [Abs.Obj.tre true l ys]) b'↔b'∈kid.blocks:=λb'=>by
  constructor
  .rintro ⟨q,h,a1,a2,a3⟩;by_cases hq:q=0
   .subst hq;rw[m10]at a2;cases a2;exact a3
   .rw [m1s q hq]at a2;cases a2
  .intro hb;exact⟨0,kid,rfl,m10,hb⟩
 have kin:∀b'∈kid.blocks,b'∈hd.blocks:=λb' hb=>by rw[<-hkb];exact hb
 have hOw:∀b',Ow O' m1 (jp [Abs.Obj.tre true l ys]) b'->Ow O0 m st b':=by
  rintro b' (h|h)
  .rw [<-hO']at h;exact h.1
  .exact Or.inr ⟨id,_,hal,hm,kin b' ((mz1 b').1 h)⟩
 have hsc:Sto X w O' m1 (jp [Abs.Obj.tre true l ys]):=by
  refine⟨hs.j,λb' hb=>?_,λq hq=>?_,λb' hb=>?_,λq h b' a1 a2 a3=>?_,λq q' h h' b' a1 a2 a3 a4 _ _=>?_,λq=>?_⟩
  .rw [<-hO'];exact⟨Or.inl (hs.jn b' hb),λhb'=>(kblk b' hb').2 (hs.jn b' hb)⟩
  .by_cases h0:q=0
   .subst h0;cases hq
   .exact m1s q h0
  .rw [<-hO']at hb;rcases hb.1 with h|⟨q,h,a1,a2,a3⟩
   .exact hs.old b' h
   .exact (hs.blk q h b' a1 a2 a3).1
  .by_cases h0:q=0
   .subst h0;rw[m10]at a2;cases a2;exact⟨(kblk b' a3).1,λh=>by rw[<-hO']at h;exact h.2 a3⟩
   .rw [m1s q h0]at a2;cases a2
  .by_cases h0:q=0
   .by_cases h0':q'=0
    .rw [h0,h0']
    .rw [m1s q' h0']at a4;cases a4
   .rw [m1s q h0]at a3;cases a3
  .by_cases h0:q=0
   .subst h0;rw[m10];exact⟨kid,rfl,e5,by rw[hkb];exact hnd⟩
   .rw [st1s q h0];trivial
 have hrel:=K2 (w:=w) (O:=Ow O0 m st) (O':=Ow O' m1 (jp [Abs.Obj.tre true l ys])) (m:=m) (m1:=m1) hOw (λv hv=>by
  simp only[relV]at hv⊢;obtain⟨h,a1,a2⟩:=hv;rw[hm]at a1;cases a1;exact⟨kid,m10,ehdr v a2⟩) hsub h2
 rw[jP ho h1 hp.1 w];refine⟨rfl,(hp.2 w _ _ _ hsc (λq hq=>by
  have:q=0:=by simpa using hq
  subst this;exact⟨kid,m10,yO e5⟩) hrel).mono ?_⟩
 rintro e w' ⟨v,rfl,as',rs',mc',hh',⟨q1,q2,q3,q4⟩,hkeep,hnew,hsame,hs',hv⟩;obtain⟨rfl,rfl⟩:=hh.eq hh';have hobjs:sg.objs as' [r0]=[Abs.Obj.tre true l r0]:=by
  have:Nat.blt (l+64) 64=false:=by
   cases hc:Nat.blt (l+64) 64 with
   |false=>rfl
   |true=>rw[jeu]at hc;omega
  have h8:Nat.blt (l+64) 256=true:=by rw[jeu]at h128⊢;omega
  have h9:Nat.beq (l+64) 128=false:=by
   cases h:Nat.beq (l+64) 128 with
   |false=>rfl
   |true=>rw[jeu,jah h]at h128;omega
  simp[SigA.objs,SigA.objsB,hws,hnw,hks,OW.toO,JC,zo,zf,this,h8,h9]
 rw[hobjs]at hnew hs' hv;have mc0:mc' 0=some kid:=(hsame 0 (by simp)).trans m10;have hkeep:∀b',b'<w.heap.size->b' ∉ kid.blocks->w'.heap[b']? = w.heap[b']? :=λb' hb hn=>hkeep b' hb λh=>hn ((mz1 b').1 h);have hk':jf w' true l r0 kid:=by
  have:=hs'.obj 0;rw[show jp [Abs.Obj.tre true l r0] 0 = .tre true l r0 from rfl,mc0]at this;obtain⟨hd',a1,a2,_⟩:=this;cases a1;exact a2
 dsimp only[ko];refine⟨v,rfl,m,?_⟩;have hst2:ji st [.obj id (.row l r0)]=upd st id (.row l r0):=by
  show upd st id (Wr.on _ (st id))=_;rfl
 rw[hst2];have al2:∀q,(upd st id (.row l r0) q).alive=(st q).alive:=λq=>by
  by_cases h0:q=id
  .subst h0;rw[jc,hal];rfl
  .rw [upd_ne _ _ h0]
 have hmz:∀b',Mz m (upd st id (.row l r0)) b'->Mz m st b':=by
  rintro b' ⟨q,h,a1,a2,a3⟩;exact⟨q,h,by rw[<-al2];exact a1,a2,a3⟩
 have hchg:Chg w m st w' m (upd st id (.row l r0)):=
  ⟨q1,q2,q3,q4,λb' hb hn=>hkeep b' hb λhk=>hn ⟨id,_,hal,hm,kin b' hk⟩,yp.refl m,λb' hb=>Or.inl (hmz b' hb)⟩
 refine⟨hchg,hs.chg hchg ?_ (λq h b' a1 a2 _=>Or.inl ⟨by rw[<-al2];exact a1,a2⟩) (λq q' h h' b' a1 a2=>hs.inj q q' h h' b' (by rw[<-al2];exact a1) (by rw[<-al2];exact a2)) ?_,?_⟩
 .intro q hq;by_cases h0:q=id
  .subst h0;rw[jc]at hq;cases hq
  .rw [upd_ne _ _ h0]at hq;exact hs.fresh q hq
 .intro q;by_cases h0:q=id
  .subst h0;right;rw[jc,hm];refine⟨_,rfl,?_⟩;subst hkid;cases hd with
   |none=>simpa[Hd.asTre,jf,rowOk]using hk'
   |tre=>simp[rowOk]at hok
   |mp=>simp[rowOk]at hok
   |blk b c n=>
    simp only[Hd.asTre,jf]at hk';obtain⟨_,p1,p2,p3,p4,cc,T,p5,p6,p7,p8⟩:=hk';simp only[rowOk];exact⟨p1,p2,p3,p4,cc,T,p5,p6,p7,KR (KH _) p8⟩
  .rw [upd_ne _ _ h0];refine Or.inl ⟨rfl,rfl,λh b' a1 a2 a3=>hkeep b' (hs.blk q h b' a1 a2 a3).1 λhk=>h0 (hs.inj q id h _ b' a1 hal a2 hm a3 (kin b' hk))⟩
 .refine Km (MonoW.sub λb' hb=>?_) (λq id' hq=>by simp at hq) _ _ hv;by_cases hk:b'∈kid.blocks
  .exact Or.inr ⟨0,kid,rfl,mc0,hk⟩
  .refine Or.inl ?_;rw[<-hO'];exact⟨hb.imp (λh=>h) (hmz b'),hk⟩
end
noncomputable section
def Ql(st:jb):V->Option (A×Xm×Xn)
 |.d a=>some (a,[],[])
 |.agg cs=>(match j6 st cs with|some (as,r,w)=>some (.agg as,r,w)|none=>none)
 |_=>none
theorem jaR{st:jb}{v:V}{a:A}{r:Xm}{ws:Xn}(h:Ql st v=some (a,r,ws)):∀x∈r,jC st x:=by
 unfold Ql at h;split at h
 .cases h;simp
 .split at h
  .rename_i h1;cases h;exact kR h1
  .cases h
 .cases h
def YF:V->Xl
 |.agg cs=>(yv cs).map .agg
 |v=>dat v
theorem Jf{w:World}{O:Nat->Prop}{m:jq}{v:V}{a:A}{u:Value}(h:YF v=some a)(hr:relV w O m v u):rel w O a u:=by
 unfold YF at h;split at h
 .rw [jeq]at h;obtain⟨l,h1,rfl⟩:=h;simp only[relV]at hr;obtain⟨vs,rfl,h2⟩:=hr;simp only[rel];exact⟨vs,rfl,jW h1 h2⟩
 .exact jm h hr
def JQ:Xj->Option Xd
 | []=>some []
 |v::r=>(match YF v,JQ r with|some a,some l=>some (a::l)|_,_=>none)
theorem yc{w:World}{O:Nat->Prop}{m:jq} :∀{cs:Xj}{as:Xd}{vs:Xh},JQ cs=some as->ja w O m cs vs->je w O as vs
 | [],as,vs,h,hr=>by simp only[JQ,jb4]at h;subst h;simpa[ja,je]using hr
 |c::cs,as,vs,h,hr=>by
  simp only[JQ]at h;split at h
  .rename_i a l h1 h2;cases h;simp only[ja]at hr;obtain⟨v,r,rfl,g1,g2⟩:=hr;simp only[je];exact⟨v,r,rfl,Jf h1 g1,yc h2 g2⟩
  .cases h
def jbl:Abs.Obj->Option (A×Abs.Obj)
 |.map xs=>some (.mp xs,.gone)
 |.row k xs=>some (.sl k xs,.fro k xs)
 |.fro k xs=>some (.sl k xs,.fro k xs)
 |_=>none
theorem jaf{X:Ctx}{w:World}{O0:Nat->Prop}{m:jq}{st:jb}(hs:Sto X w O0 m st){id:Nat}{a:A}{o':Abs.Obj}(h:jbl (st id)=some (a,o')) :
  Sto X w O0 m (upd st id o')/\(∀b,Ow O0 m (upd st id o') b->Ow O0 m st b)/\Chg w m st w m (upd st id o')/\ ∀u,relV w (Ow O0 m st) m (.row id) u->rel w (Ow O0 m (upd st id o')) a u:=by
 cases hst:st id with
 |map xs=>
  rw[hst]at h;cases h;have hsub:∀b,Ow O0 m (upd st id .gone) b->Ow O0 m st b:=Jo λh=>by cases h
  refine⟨hs.kill id,hsub,Chg.ghost (λh=>by cases h),λu hu=>?_⟩;simp only[relV]at hu;obtain⟨hd',g1,g2⟩:=hu;have ho:=hs.obj id;rw[hst]at ho;obtain⟨hd2,g3,g4⟩:=ho;rw[g1]at g3;cases g3;refine YZ g4 g2 hsub λb e=>?_;subst e;exact Ja (id:=id) hs (by rw[hst];rfl) g1 (by simp[Hd.blocks]) rfl
 |row k xs=>
  rw[hst]at h;cases h;have hsub:∀b,Ow O0 m (upd st id (.fro k xs)) b->Ow O0 m st b:=Jo λh=>by cases h
  have hf:=hs.freeze hst;refine⟨hf,hsub,Chg.ghost (λh=>by cases h),λu hu=>?_⟩;exact kT hf (jc _ _ _) (by simpa only[relV]using hu)
 |fro k xs=>
  rw[hst]at h;cases h;have e:upd st id (.fro k xs)=st:=by rw[<-hst];exact upd_same rfl
  rw[e];exact⟨hs,λ_ h=>h,Chg.refl _ _ _,λu hu=>kT hs hst hu⟩
 |_=>rw[hst]at h;cases h
def yI(st:jb):Xj->Option (Xd×Option (Nat×Abs.Obj×Abs.Obj))
 | []=>some ([],none)
 |.row id::vs=>(match jbl (st id),JQ vs with
  |some (a,o'),some as=>some (a::as,some (id,st id,o'))
  |_,_=>none)
 |v::vs=>(match YF v,yI st vs with
  |some a,some (as,p)=>some (a::as,p)
  |_,_=>none)
def jjC:Option (Nat×Abs.Obj×Abs.Obj)->Xm
 |none=>[]
 |some (id,o,_)=>[.obj id o]
def jjD:Option (Nat×Abs.Obj×Abs.Obj)->Xn
 |none=>[]
 |some (id,_,o')=>[.obj id o']
theorem Qj{st:jb}{v:V}(vs:Xj)(hne:∀id,v≠ .row id):yI st (v::vs)=(match YF v,yI st vs with
  |some a,some (as,p)=>some (a::as,p)
  |_,_=>none):=by
 cases v<;>first|rfl|exact absurd rfl (hne _)
theorem ZI{st:jb} :∀{vs:Xj}{as:Xd}{p:Option (Nat×Abs.Obj×Abs.Obj)},yI st vs=some (as,p)-> ∀x∈jjC p,jC st x
 | [],as,p,h=>by simp only[yI,jb4,jem]at h;obtain⟨_,rfl⟩:=h;simp[jjC]
 |v::vs,as,p,h=>by
  by_cases hr:∃id,v = .row id
  .obtain ⟨id,rfl⟩:=hr;simp only[yI]at h;split at h
   .cases h;intro x hx;simp only[jjC,jdC]at hx;subst hx;rfl
   .cases h
  .rw [Qj vs λid e=>hr ⟨id,e⟩]at h;split at h
   .rename_i h2;cases h;exact ZI h2
   .cases h
theorem ZJ{X:Ctx}{w:World}{O0:Nat->Prop}{m:jq}{st0 st:jb}(hs:Sto X w O0 m st):∀{vs:Xj}{as:Xd}{p:Option (Nat×Abs.Obj×Abs.Obj)},yI st0 vs=some (as,p)->(∀x∈jjC p,jC st x)->
  Sto X w O0 m (ji st (jjD p))/\(∀b,Ow O0 m (ji st (jjD p)) b->Ow O0 m st b)/\Chg w m st w m (ji st (jjD p))/\ ∀us,ja w (Ow O0 m st) m vs us->je w (Ow O0 m (ji st (jjD p))) as us
 | [],as,p,h,_=>by
  simp only[yI,jb4,jem]at h;obtain⟨rfl,rfl⟩:=h;exact⟨hs,λ_ h=>h,Chg.refl _ _ _,λus hr=>by simpa[ja,je]using hr⟩
 |v::vs,as,p,h,hg=>by
  by_cases hv:∃id,v = .row id
  .obtain ⟨id,rfl⟩:=hv;simp only[yI]at h;split at h
   .rename_i a o' as' hgv hd;cases h;have hst:st id=st0 id:=hg (.obj id (st0 id)) (by simp[jjC]);rw[<-hst]at hgv;obtain⟨g1,g2,g3,g4⟩:=jaf hs hgv;refine⟨g1,g2,g3,λus hr=>?_⟩;simp only[ja]at hr;obtain⟨u,r,rfl,h1,h2⟩:=hr;simp only[je];exact⟨u,r,rfl,g4 u h1,jo (MonoW.sub g2) _ _ (yc hd h2)⟩
   .cases h
  .rw [Qj vs λid e=>hv ⟨id,e⟩]at h;split at h
   .rename_i a as' p' ha hp;cases h;obtain⟨g1,g2,g3,g4⟩:=ZJ hs hp hg;refine⟨g1,g2,g3,λus hr=>?_⟩;simp only[ja]at hr;obtain⟨u,r,rfl,h1,h2⟩:=hr;simp only[je];exact⟨u,r,rfl,js (MonoW.sub g2) _ _ (Jf ha h1),g4 r h2⟩
   .cases h
def yJ(st:jb):Xj->Option (Xd×Option (Nat×Abs.Obj×Abs.Obj))
 | []=>some ([],none)
 |.row id::vs=>(match jbl (st id),JQ vs with
  |some (a,o'),some as=>some (a::as,some (id,st id,o'))
  |_,_=>none)
 |v::vs=>(match YF v with
  |some a=>(match yJ st vs with|some (as,p)=>some (a::as,p)|none=>none)
  |none=>(match v with
   |.agg us=>(match yI st us,JQ vs with|some (bs,p),some as=>some (.agg bs::as,p)|_,_=>none)
   |_=>none))
theorem Qk{st:jb}{v:V}(vs:Xj)(hne:∀id,v≠ .row id):yJ st (v::vs)=(match YF v with
  |some a=>(match yJ st vs with|some (as,p)=>some (a::as,p)|none=>none)
  |none=>(match v with
   |.agg us=>(match yI st us,JQ vs with|some (bs,p),some as=>some (.agg bs::as,p)|_,_=>none)
   |_=>none)):=by
 cases v<;>first|rfl|exact absurd rfl (hne _)
theorem ZK{st:jb} :∀{vs:Xj}{as:Xd}{p:Option (Nat×Abs.Obj×Abs.Obj)},yJ st vs=some (as,p)-> ∀x∈jjC p,jC st x
 | [],as,p,h=>by simp only[yJ,jb4,jem]at h;obtain⟨_,rfl⟩:=h;simp[jjC]
 |v::vs,as,p,h=>by
  by_cases hr:∃id,v = .row id
  .obtain ⟨id,rfl⟩:=hr;simp only[yJ]at h;split at h
   .cases h;intro x hx;simp only[jjC,jdC]at hx;subst hx;rfl
   .cases h
  .rw [Qk vs λid e=>hr ⟨id,e⟩]at h;split at h
   .split at h
    .rename_i h2;cases h;exact ZK h2
    .cases h
   .split at h
    .split at h
     .rename_i h2 _;cases h;exact ZI h2
     .cases h
    .cases h
theorem ZL{X:Ctx}{w:World}{O0:Nat->Prop}{m:jq}{st0 st:jb}(hs:Sto X w O0 m st):∀{vs:Xj}{as:Xd}{p:Option (Nat×Abs.Obj×Abs.Obj)},yJ st0 vs=some (as,p)->(∀x∈jjC p,jC st x)->
  Sto X w O0 m (ji st (jjD p))/\(∀b,Ow O0 m (ji st (jjD p)) b->Ow O0 m st b)/\Chg w m st w m (ji st (jjD p))/\ ∀us,ja w (Ow O0 m st) m vs us->je w (Ow O0 m (ji st (jjD p))) as us
 | [],as,p,h,_=>by
  simp only[yJ,jb4,jem]at h;obtain⟨rfl,rfl⟩:=h;exact⟨hs,λ_ h=>h,Chg.refl _ _ _,λus hr=>by simpa[ja,je]using hr⟩
 |v::vs,as,p,h,hg=>by
  by_cases hv:∃id,v = .row id
  .obtain ⟨id,rfl⟩:=hv;simp only[yJ]at h;split at h
   .rename_i a o' as' hgv hd;cases h;have hst:st id=st0 id:=hg (.obj id (st0 id)) (by simp[jjC]);rw[<-hst]at hgv;obtain⟨g1,g2,g3,g4⟩:=jaf hs hgv;refine⟨g1,g2,g3,λus hr=>?_⟩;simp only[ja]at hr;obtain⟨u,r,rfl,h1,h2⟩:=hr;simp only[je];exact⟨u,r,rfl,g4 u h1,jo (MonoW.sub g2) _ _ (yc hd h2)⟩
   .cases h
  .rw [Qk vs λid e=>hv ⟨id,e⟩]at h;split at h
   .rename_i a ha;split at h
    .rename_i as' p' hp;cases h;obtain⟨g1,g2,g3,g4⟩:=ZL hs hp hg;refine⟨g1,g2,g3,λus hr=>?_⟩;simp only[ja]at hr;obtain⟨u,r,rfl,h1,h2⟩:=hr;simp only[je];exact⟨u,r,rfl,js (MonoW.sub g2) _ _ (Jf ha h1),g4 r h2⟩
    .cases h
   .split at h
    .rename_i us';split at h
     .rename_i bs p' as' hp hd;cases h;obtain⟨g1,g2,g3,g4⟩:=ZJ hs hp hg;refine⟨g1,g2,g3,λus hr=>?_⟩;simp only[ja,relV]at hr;obtain⟨u,r,rfl,⟨ws,rfl,h1⟩,h2⟩:=hr;simp only[je,rel];exact⟨_,r,rfl,⟨ws,rfl,g4 ws h1⟩,jo (MonoW.sub g2) _ _ (yc hd h2)⟩
     .cases h
    .cases h
theorem jl.sealmap{P:Program}{X:Ctx}{o:Oper}{ρ:Operand->V}{f:Operand}{xs0:Array Operand}{ts:Array TypeId}(ho:o.op = .call { callee:= .value f,args:=xs0,argTypes:=ts }){g:FuncId}{vs0:Xj}{st0:jb}{as:Xd}{p:Option (Nat×Abs.Obj×Abs.Obj)}{out:Out}{r:A}
  (hseal:yJ st0 vs0=some (as,p)) (hp:yr X P g as out) (hr0:fin false out=some r)
  (hargs:∀(w:World)(O0:Nat->Prop)(m:jq)(st:jb)(ev:Operand->Value),Sto X w O0 m st->(∀x∈o.op.operands,relV w (Ow O0 m st) m (ρ x) (ev x))->
   ∃us:Xh,ev f = .func (.func g) #[] us.toArray/\ja w (Ow O0 m st) m vs0 (xs0.toList.map ev++us)) :
  jl P X o ρ ⟨.d r,jjC p,jjD p⟩:=by
 intro w O0 m st ev hs hg hr _hc;obtain⟨us,h1,h2⟩:=hargs w O0 m st ev hs hr;have hout:out.1=r:=by
  unfold fin at hr0;split at hr0
  .simp only[Bool.false_and,jfB,if_false]at hr0;exact jf2 hr0
  .cases hr0
 obtain⟨hk1,_,hk2,hrel⟩:=ZL hs hseal hg;have hrel:=hrel _ h2;generalize hst1:ji st (jjD p)=st1 at *;have hs1:=hk1;have hc1:=hk2;rw[jP ho h1 hp.1 w];refine⟨rfl,(hp.2 w (Ow O0 m st1) _ hs.j (λb hb=>Or.inl (hs.jn b hb)) (λb hb=>?_) hrel).mono ?_⟩
 .rcases hb with h|⟨id,hd,g1,g2,g3⟩
  .exact hs1.old b h
  .exact (hs1.blk id hd b g1 g2 g3).1
 .rintro e w' ⟨v,rfl,hb,hv⟩;have hpost:ko X w O0 m (ji st (jjD p)) [] (.d r) w' v:=by
   rw[hst1];refine⟨m,Chg.below hb,hs1.below hb,?_⟩;simp only[relV];rw[<-hout];exact hv
  have:=ko.after (ws':=[]) (by rw[hst1];exact hc1) hpost
  rw[jf4]at this;exact⟨v,rfl,this⟩
theorem jl.sealcall{P:Program}{X:Ctx}{o:Oper}{ρ:Operand->V}{f:Operand}{xs0:Array Operand}{ts:Array TypeId}(ho:o.op = .call { callee:= .value f,args:=xs0,argTypes:=ts }){g:FuncId}{v0:V}{st0:jb}{a:A}{rds:Xm}{ws:Xn}{out:Out}{r:A}
  (hseal:Ql st0 v0=some (a,rds,ws)) (hp:yr X P g [a] out) (hr0:fin false out=some r)
  (hargs:∀(w:World)(O0:Nat->Prop)(m:jq)(st:jb)(ev:Operand->Value),Sto X w O0 m st->(∀x∈o.op.operands,relV w (Ow O0 m st) m (ρ x) (ev x))->
   ∃us:Xh,ev f = .func (.func g) #[] us.toArray/\ja w (Ow O0 m st) m [v0] (xs0.toList.map ev++us)) :
  jl P X o ρ ⟨.d r,rds,ws⟩:=by
 intro w O0 m st ev hs hg hr _hc;obtain⟨us,h1,h2⟩:=hargs w O0 m st ev hs hr;have hout:out.1=r:=by
  unfold fin at hr0;split at hr0
  .simp only[Bool.false_and,jfB,if_false]at hr0;exact jf2 hr0
  .cases hr0
 have key:∃st1,ji st ws=st1/\Sto X w O0 m st1/\Chg w m st w m st1/\je w (Ow O0 m st1) [a] (xs0.toList.map ev++us):=by
  unfold Ql at hseal;split at hseal
  .cases hseal;refine⟨st,rfl,hs,Chg.refl _ _ _,?_⟩;simpa only[ja,relV,je]using h2
  .split at hseal
   .rename_i as r' ws' hsc;cases hseal;simp only[ja,relV]at h2;obtain⟨v,t,e1,⟨vs,rfl,h3⟩,h4⟩:=h2;obtain⟨a1,a2,a3,_⟩:=ZH hs hsc hg h3;refine⟨_,rfl,a1,a2,?_⟩;rw[e1];simp only[je,rel];exact⟨_,t,rfl,⟨vs,rfl,a3⟩,h4⟩
   .cases hseal
  .cases hseal
 obtain⟨st1,e1,hs1,hc1,hrel⟩:=key;rw[jP ho h1 hp.1 w];refine⟨rfl,(hp.2 w (Ow O0 m st1) _ hs.j (λb hb=>Or.inl (hs.jn b hb)) (λb hb=>?_) hrel).mono ?_⟩
 .rcases hb with h|⟨id,hd,g1,g2,g3⟩
  .exact hs1.old b h
  .exact (hs1.blk id hd b g1 g2 g3).1
 .rintro e w' ⟨v,rfl,hb,hv⟩;have hpost:ko X w O0 m (ji st ws) [] (.d r) w' v:=by
   rw[e1];refine⟨m,Chg.below hb,hs1.below hb,?_⟩;simp only[relV];rw[<-hout];exact hv
  have:=ko.after (ws':=[]) (by rw[e1];exact hc1) hpost
  rw[jf4]at this;exact⟨v,rfl,this⟩
end
noncomputable section
end
end Go.Proofs.YthlhadhipnokfaaGreatDoor.Abs
