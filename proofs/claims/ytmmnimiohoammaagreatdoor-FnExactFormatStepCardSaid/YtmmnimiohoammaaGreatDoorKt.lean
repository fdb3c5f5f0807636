/- Kt -/
import Derived.Test.YtmmnimiohoammaaGreatDoorEc
import Derived.Test.YtmmnimiohoammaaGreatDoorChecked
import Derived.KernelRfl
import Derived.Test.YtmmnimiohoammaaGreatDoorEd
namespace Go.Proofs.YtmmnimiohoammaaGreatDoor
open Go Go.Proofs.YtmmnimiohoammaaGreatDoor.Abs
set_option linter.unusedSimpArgs false
set_option linter.unusedVariables false
def tyI (k:IntKind) (b:Nat):Option TI:=some ⟨.int k,1,b,.int k 0⟩
def tyZ:Option TI:=some ⟨.str,1,16,.string ⟨#[]⟩⟩
def tyB:Option TI:=some ⟨.bool,1,1,.bool false⟩
def tyS (e:Nat):Option TI:=some ⟨.slice e,1,24,.slice none 0 0⟩
def kH:Option TI:=some ⟨.fn,1,8,.nilFunc⟩
def tyM (k e:Nat):Option TI:=some ⟨.map k e,1,8,.map none⟩
def tyP (e:Nat):Option TI:=some ⟨.ptr e,1,8,.pointer none⟩
def tyU (f:List (Nat × Nat)) (n b:Nat) (z:Array Value):Option TI:=some ⟨.struct f,n,b,.agg z⟩
def tN:Option TI:=none
section
variable {P:Program} {t:Nat}
theorem okI {k:IntKind} {b:Nat} (h:P.underlying t=some (.int k)) (e:(P.info? t).map (λj=>(j.size,j.bytes,j.zero))=some (1,b,some (.int k 0)):=by kernel_rfl):TI.ok P t ⟨.int k,1,b,.int k 0⟩:=⟨h,e,rfl,λ_=>rfl⟩
theorem okZ (h:P.underlying t=some .string) (e:(P.info? t).map (λj=>(j.size,j.bytes,j.zero))=some (1,16,some (.string ⟨#[]⟩)):=by kernel_rfl):TI.ok P t ⟨.str,1,16,.string ⟨#[]⟩⟩:=⟨h,e,rfl,λ_=>rfl⟩
theorem jnG (h:P.underlying t=some .bool) (e:(P.info? t).map (λj=>(j.size,j.bytes,j.zero))=some (1,1,some (.bool false)):=by kernel_rfl):TI.ok P t ⟨.bool,1,1,.bool false⟩:=⟨h,e,rfl,λ_=>rfl⟩
theorem okS {k:Nat} (h:P.underlying t=some (.slice k)) (e:(P.info? t).map (λj=>(j.size,j.bytes,j.zero))=some (1,24,some (.slice none 0 0)):=by kernel_rfl):TI.ok P t ⟨.slice k,1,24,.slice none 0 0⟩:=⟨h,e,rfl,λ_=>rfl⟩
theorem okF {a b c} (h:P.underlying t=some (.func a b c)) (e:(P.info? t).map (λj=>(j.size,j.bytes,j.zero))=some (1,8,some .nilFunc):=by kernel_rfl):TI.ok P t ⟨.fn,1,8,.nilFunc⟩:=⟨⟨_,_,_,h⟩,e,rfl,λ_=>rfl⟩
theorem okM {k l:Nat} (h:P.underlying t=some (.map k l)) (e:(P.info? t).map (λj=>(j.size,j.bytes,j.zero))=some (1,8,some (.map none)):=by kernel_rfl):TI.ok P t ⟨.map k l,1,8,.map none⟩:=⟨h,e,rfl,λ_=>rfl⟩
theorem jlc {k:Nat} (h:P.underlying t=some (.pointer k)) (e:(P.info? t).map (λj=>(j.size,j.bytes,j.zero))=some (1,8,some (.pointer none)):=by kernel_rfl):TI.ok P t ⟨.ptr k,1,8,.pointer none⟩:=⟨h,e,rfl,λ_=>rfl⟩
theorem okU {f:List (Nat × Nat)} {n b:Nat} {z:Array Value} {g} (h:P.underlying t=some (.struct g)) (e1:g.toList.map (λf=>(f.offset,f.type))=f:=by kernel_rfl) (e:(P.info? t).map (λj=>(j.size,j.bytes,j.zero))=some (n,b,some (.agg z)):=by kernel_rfl) (e2:(Value.agg z).cells.size=n:=by exact rfl):TI.ok P t ⟨.struct f,n,b,.agg z⟩:=⟨⟨_,h,e1⟩,e,e2,λh=>nomatch h⟩
end
def jks:List (Option TI):=[tN,kH,tyI .i64 8,tyI .i64 8,tyB,tyI .u8 1,tN,tN,tN,tyZ,tN,tN,tyI .u64 8,tN,tN,tN,tN,tyP 140,tN,tN,tN,tyI .i32 4,tyS 3,tyS 73,tyU [(0,23)] 1 24 #[.slice none 0 0],tyU [(0,23)] 1 24 #[.slice none 0 0],tyU [(0,3),(1,22),(2,22),(3,25)] 4 80 #[.int .i64 0,.slice none 0 0,.slice none 0 0,.slice none 0 0],tyU [(0,3),(1,22),(2,22),(3,25)] 4 80 #[.int .i64 0,.slice none 0 0,.slice none 0 0,.slice none 0 0],kH,tN,kH,tyS 58,tyU [(0,31)] 1 24 #[.slice none 0 0],tyU [(0,31)] 1 24 #[.slice none 0 0],tyU [(0,3),(1,22),(2,22),(3,33)] 4 80 #[.int .i64 0,.slice none 0 0,.slice none 0 0,.slice none 0 0],tyU [(0,3),(1,22),(2,22),(3,33)] 4 80 #[.int .i64 0,.slice none 0 0,.slice none 0 0,.slice none 0 0],kH,kH,kH,kH,kH,kH,kH,kH,tyS 9,kH,kH,kH,kH,kH,kH,kH,kH,kH,tyS 56,tyU [(0,9),(1,54)] 2 40 #[.string ⟨#[]⟩,.slice none 0 0],tyU [(0,9),(1,54)] 2 40 #[.string ⟨#[]⟩,.slice none 0 0],tyU [(0,4),(1,56)] 3 48 #[.bool false,.string ⟨#[]⟩,.slice none 0 0],tyU [(0,4),(1,56)] 3 48 #[.bool false,.string ⟨#[]⟩,.slice none 0 0],kH,kH,kH,kH,kH,kH,kH,kH,kH,kH,tyS 71,tyU [(0,9),(1,69)] 2 40 #[.string ⟨#[]⟩,.slice none 0 0],tyU [(0,9),(1,69)] 2 40 #[.string ⟨#[]⟩,.slice none 0 0],tyU [(0,4),(1,71)] 3 48 #[.bool false,.string ⟨#[]⟩,.slice none 0 0],tyU [(0,4),(1,71)] 3 48 #[.bool false,.string ⟨#[]⟩,.slice none 0 0],kH,kH,kH,kH,kH,kH,kH,kH,tyP 85,tyS 5,tyU [(0,82),(1,83)] 2 32 #[.pointer none,.slice none 0 0],tyU [(0,82),(1,83)] 2 32 #[.pointer none,.slice none 0 0],kH,tN,tN,tN,kH,kH,kH,kH,kH,kH,kH,kH,kH,kH,kH,tyP 5,kH,kH,kH,kH,kH,tN,tyI .u64 8,kH,kH,tN,kH,tN,kH,kH,kH,kH,kH,kH,tN,tyI .u32 4,tN,tyI .u64 8,kH,kH,tN,tN,tN,tN,tN,tN,tN,kH,tN,tN,kH,tN,tN,tyU [(0,12),(1,12),(2,121),(3,134),(4,5),(5,5),(6,135),(7,136),(8,101),(9,137),(10,138)] 11 48 #[.int .u64 0,.int .u64 0,.int .u32 0,.int .u8 0,.int .u8 0,.int .u8 0,.int .u8 0,.nilFunc,.pointer none,.int .i32 0,.int .i32 0]]
set_option maxRecDepth 100000 in
theorem jnT:kI Tryz.prog (tyD jks):=Ko.ok ⟨okF Tryz.underlying1,okI Tryz.underlying2,okI Tryz.underlying3,jnG Tryz.underlying4,okI Tryz.underlying5,okZ Tryz.underlying9,okI Tryz.underlying12,jlc Tryz.underlying17,okI Tryz.underlying21,okS Tryz.underlying22,okS Tryz.underlying23,okU Tryz.underlying24,okU Tryz.underlying25,okU Tryz.underlying26,okU Tryz.underlying27,okF Tryz.underlying28,okF Tryz.underlying30,okS Tryz.underlying31,okU Tryz.underlying32,okU Tryz.underlying33,okU Tryz.underlying34,okU Tryz.underlying35,okF Tryz.underlying36,okF Tryz.underlying37,okF Tryz.underlying38,okF Tryz.underlying39,okF Tryz.underlying40,okF Tryz.underlying41,okF Tryz.underlying42,okF Tryz.underlying43,okS Tryz.underlying44,okF Tryz.underlying45,okF Tryz.underlying46,okF Tryz.underlying47,okF Tryz.underlying48,okF Tryz.underlying49,okF Tryz.underlying50,okF Tryz.underlying51,okF Tryz.underlying52,okF Tryz.underlying53,okS Tryz.underlying54,okU Tryz.underlying55,okU Tryz.underlying56,okU Tryz.underlying57,okU Tryz.underlying58,okF Tryz.underlying59,okF Tryz.underlying60,okF Tryz.underlying61,okF Tryz.underlying62,okF Tryz.underlying63,okF Tryz.underlying64,okF Tryz.underlying65,okF Tryz.underlying66,okF Tryz.underlying67,okF Tryz.underlying68,okS Tryz.underlying69,okU Tryz.underlying70,okU Tryz.underlying71,okU Tryz.underlying72,okU Tryz.underlying73,okF Tryz.underlying74,okF Tryz.underlying75,okF Tryz.underlying76,okF Tryz.underlying77,okF Tryz.underlying78,okF Tryz.underlying79,okF Tryz.underlying80,okF Tryz.underlying81,jlc Tryz.underlying82,okS Tryz.underlying83,okU Tryz.underlying84,okU Tryz.underlying85,okF Tryz.underlying86,okF Tryz.underlying90,okF Tryz.underlying91,okF Tryz.underlying92,okF Tryz.underlying93,okF Tryz.underlying94,okF Tryz.underlying95,okF Tryz.underlying96,okF Tryz.underlying97,okF Tryz.underlying98,okF Tryz.underlying99,okF Tryz.underlying100,jlc Tryz.underlying101,okF Tryz.underlying102,okF Tryz.underlying103,okF Tryz.underlying104,okF Tryz.underlying105,okF Tryz.underlying106,okI Tryz.underlying108,okF Tryz.underlying109,okF Tryz.underlying110,okF Tryz.underlying112,okF Tryz.underlying114,okF Tryz.underlying115,okF Tryz.underlying116,okF Tryz.underlying117,okF Tryz.underlying118,okF Tryz.underlying119,okI Tryz.underlying121,okI Tryz.underlying123,okF Tryz.underlying124,okF Tryz.underlying125,okF Tryz.underlying133,okF Tryz.underlying136,okU Tryz.underlying139,trivial⟩
open Go Go.RowKit Go.Proofs.YtmmnimiohoammaaGreatDoor.Abs
def jmn:List (Nat × List (List Nat × Nat)):=[(12,[([1,0,1,0],9)]),(13,[([1,1,0,1,0],10)]),(15,[([1,1,0,1,0],25)]),(16,[([1,1,0,1,0],26)]),(17,[([1,1,0,1,0],25)]),(21,[([1,0,1,0],450)]),(23,[([1,1,1,0,1,0],7176)]),(24,[([1,1,1,0,1,0],28680)]),(25,[([1,1,0,1,0],35)]),(27,[([1,1,1,0,1,0],35)]),(32,[([1,1,0,1,0],25)]),(38,[([1,1,1,1,0,1,0],3848290697251),([1,1,1,1,1,1,1,1,0,1,0],64563604257983430914)]),(40,[([1,1,0,1,0],35)]),(43,[([1,1,1,0,1,0],10)]),(44,[([1,1,1,0,1,0],9)]),(46,[([1,1,1,0,1,0],140)]),(47,[([1,1,1,0,1,0],26)]),(49,[([1,0,1,0],387)]),(51,[([1,1,0,1,0],456)]),(59,[([1,1,1,1,0,1,0],1879048202)]),(63,[([1,1,0,1,0],102)]),(64,[([1,1,0,1,0],26)]),(65,[([1,1,0,1,0],9)]),(71,[([1,0,1,0],97)]),(75,[([1,0,1,0],14343)]),(81,[([1,1,1,0,1,0],35)]),(83,[([1,1,0,1,0],25)]),(84,[([1,1,0,1,0],904)]),(85,[([1,1,0,1,0],904)]),(86,[([1,0,1,0],97)]),(97,[([1,0,0],19)]),(98,[([1,1,1,1,1,0,1,1,1,0,0],146459),([1,1,1,1,1,0,1,0,1,1,1,0,0],130075)]),(101,[([1,1,0,1,0],35)]),(102,[([1,0,1,0],387)]),(103,[([1,0,1,0],387)])]
def jlF:List Nat:=[]
def jil:List Nat:=[102]
def jmm:List Nat:=[]
def jmy:List Nat:=[]
def jlA:List Nat:=[]
def jmF:List Nat:=[]
def jmN:List Nat:=[]
def jmH:List (Nat × List Nat):=[]
def jlq:List (Nat × Option Sig):=[(102,some [⟨1,[2,2],[.io 0,.box [.row 3],.cons],[1],.d 0⟩])]
noncomputable def jkS:List (Nat × Option ExtV):=[]
noncomputable def jaO:List (Nat × Option (List A->Option Out)):=[(37,some jeJ),(38,some jeK)]
noncomputable def K:Cfg:={ P:=Tryz.prog,D:=tyD jks,sig:=λf=>qM none f jlq,kp:=jnC jmn,ext:=λf=>qM none f jaO,extv:=λf=>qM none f jkS,wf:=λf=>KD f jlF,both:=λf=>KD f jil,kn:=λf=>KD f jmm,rd:=λf=>KD f jmy,tf:=λf=>KD f jlA,sl:=λf=>KD f jmF,th:=λf=>KD f jmN,stc:=λf g=>KD g (qM [] f jmH) }
noncomputable abbrev G (f:Nat) (args:List A):Option Out:=MM K (.call f args)
def codeOf (fn:Func):Code:=match fn.body with|some c=>c|none=> .skip
theorem yX {fn:Func} (h:fn.body.isSome=true):fn.body=some (codeOf fn):=by unfold codeOf;cases hb:fn.body with|some c=>rfl|none=>rw [hb] at h;cases h
theorem jm7 {f:FuncId} {fn:Func} {args:List A} (h2:K.pureF f=true) (h3:Tryz.prog.funcs[f]? = some fn) (h4:fn.body.isSome=true) (h5:Nat.ble args.length fn.ntmps=true) (h1:K.ext f=none:=by rfl):G f args=evC K (MM K) f (codeOf fn) [] (qv fn args) (yY K f fn):=jid h1 h2 h3 (yX h4) h5
theorem jjF {f:FuncId} {x:List A->Option Out} {args:List A} (h1:K.ext f=some x):G f args=x args:=jky h1
theorem jnb {f:FuncId} {fn:Func} {args:List V} {objs:List Abs.Obj} (h1:K.extv f=none) (h3:Tryz.prog.funcs[f]? = some fn) (h4:fn.body.isSome=true) (h5:Nat.ble args.length fn.ntmps=true):MM K (.callv f args objs)=evC K (MM K) f (codeOf fn) [] (Kj fn args objs) (yY K f fn):=jgs h1 h3 (yX h4) h5
theorem jop {f:FuncId} {args:List V} {objs:List Abs.Obj} {x:ExtV} (h1:K.extv f=some x):MM K (.callv f args objs)=extRun K (MM K) x args objs:=jie h1
theorem jm9 {f:FuncId} {fn:Func} {p:List Nat} {fr:List V} {objs:List Abs.Obj} {sh:Option (List Nat)} (h3:Tryz.prog.funcs[f]? = some fn) (h4:fn.body.isSome=true):MM K (.head f p fr objs sh)=evAt K (MM K) f (codeOf fn) p [] (St.of fn.ntmps fr objs sh) (yY K f fn):=jif h3 (yX h4)
end Go.Proofs.YtmmnimiohoammaaGreatDoor
