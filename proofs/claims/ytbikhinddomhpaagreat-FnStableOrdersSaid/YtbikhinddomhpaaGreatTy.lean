/- WRITTEN BY A PROGRAM (gen_ty.py): the types that the walks look at. -/
import Derived.Test.YtbikhinddomhpaaGreatE15
import Derived.Test.YtbikhinddomhpaaGreatChecked
import Derived.KernelRfl
namespace Go.Proofs.YtbikhinddomhpaaGreat
open Go Go.Proofs.YtbikhinddomhpaaGreat.Abs

theorem ty1 : TI.ok Tryz.prog 1 ⟨.fn, 1, 8, .nilFunc⟩ := ⟨⟨_, _, _, Tryz.underlying1⟩, by kernel_rfl, rfl, fun _ => rfl⟩
theorem ty2 : TI.ok Tryz.prog 2 ⟨.int .i64, 1, 8, .int .i64 0⟩ := ⟨Tryz.underlying2, by kernel_rfl, rfl, fun _ => rfl⟩
theorem ty3 : TI.ok Tryz.prog 3 ⟨.int .i64, 1, 8, .int .i64 0⟩ := ⟨Tryz.underlying3, by kernel_rfl, rfl, fun _ => rfl⟩
theorem ty4 : TI.ok Tryz.prog 4 ⟨.bool, 1, 1, .bool false⟩ := ⟨Tryz.underlying4, by kernel_rfl, rfl, fun _ => rfl⟩
theorem ty5 : TI.ok Tryz.prog 5 ⟨.int .u8, 1, 1, .int .u8 0⟩ := ⟨Tryz.underlying5, by kernel_rfl, rfl, fun _ => rfl⟩
theorem ty9 : TI.ok Tryz.prog 9 ⟨.str, 1, 16, .string ⟨#[]⟩⟩ := ⟨Tryz.underlying9, by kernel_rfl, rfl, fun _ => rfl⟩
theorem ty12 : TI.ok Tryz.prog 12 ⟨.int .u64, 1, 8, .int .u64 0⟩ := ⟨Tryz.underlying12, by kernel_rfl, rfl, fun _ => rfl⟩
theorem ty17 : TI.ok Tryz.prog 17 ⟨.ptr 134, 1, 8, .pointer none⟩ := ⟨Tryz.underlying17, by kernel_rfl, rfl, fun _ => rfl⟩
theorem ty21 : TI.ok Tryz.prog 21 ⟨.int .i32, 1, 4, .int .i32 0⟩ := ⟨Tryz.underlying21, by kernel_rfl, rfl, fun _ => rfl⟩
theorem ty22 : TI.ok Tryz.prog 22 ⟨.slice 5, 1, 24, .slice none 0 0⟩ := ⟨Tryz.underlying22, by kernel_rfl, rfl, fun _ => rfl⟩
theorem ty23 : TI.ok Tryz.prog 23 ⟨.fn, 1, 8, .nilFunc⟩ := ⟨⟨_, _, _, Tryz.underlying23⟩, by kernel_rfl, rfl, fun _ => rfl⟩
theorem ty24 : TI.ok Tryz.prog 24 ⟨.slice 9, 1, 24, .slice none 0 0⟩ := ⟨Tryz.underlying24, by kernel_rfl, rfl, fun _ => rfl⟩
theorem ty25 : TI.ok Tryz.prog 25 ⟨.slice 3, 1, 24, .slice none 0 0⟩ := ⟨Tryz.underlying25, by kernel_rfl, rfl, fun _ => rfl⟩
theorem ty26 : TI.ok Tryz.prog 26 ⟨.struct [(0, 24), (1, 25), (2, 3)], 3, 56, .agg #[.slice none 0 0, .slice none 0 0, .int .i64 0]⟩ := ⟨⟨_, Tryz.underlying26, by kernel_rfl⟩, by kernel_rfl, rfl, fun h => nomatch h⟩
theorem ty27 : TI.ok Tryz.prog 27 ⟨.struct [(0, 24), (1, 25), (2, 3)], 3, 56, .agg #[.slice none 0 0, .slice none 0 0, .int .i64 0]⟩ := ⟨⟨_, Tryz.underlying27, by kernel_rfl⟩, by kernel_rfl, rfl, fun h => nomatch h⟩
theorem ty28 : TI.ok Tryz.prog 28 ⟨.slice 30, 1, 24, .slice none 0 0⟩ := ⟨Tryz.underlying28, by kernel_rfl, rfl, fun _ => rfl⟩
theorem ty29 : TI.ok Tryz.prog 29 ⟨.struct [(0, 9), (1, 28)], 2, 40, .agg #[.string ⟨#[]⟩, .slice none 0 0]⟩ := ⟨⟨_, Tryz.underlying29, by kernel_rfl⟩, by kernel_rfl, rfl, fun h => nomatch h⟩
theorem ty30 : TI.ok Tryz.prog 30 ⟨.struct [(0, 9), (1, 28)], 2, 40, .agg #[.string ⟨#[]⟩, .slice none 0 0]⟩ := ⟨⟨_, Tryz.underlying30, by kernel_rfl⟩, by kernel_rfl, rfl, fun h => nomatch h⟩
theorem ty32 : TI.ok Tryz.prog 32 ⟨.fn, 1, 8, .nilFunc⟩ := ⟨⟨_, _, _, Tryz.underlying32⟩, by kernel_rfl, rfl, fun _ => rfl⟩
theorem ty33 : TI.ok Tryz.prog 33 ⟨.slice 71, 1, 24, .slice none 0 0⟩ := ⟨Tryz.underlying33, by kernel_rfl, rfl, fun _ => rfl⟩
theorem ty34 : TI.ok Tryz.prog 34 ⟨.struct [(0, 33)], 1, 24, .agg #[.slice none 0 0]⟩ := ⟨⟨_, Tryz.underlying34, by kernel_rfl⟩, by kernel_rfl, rfl, fun h => nomatch h⟩
theorem ty35 : TI.ok Tryz.prog 35 ⟨.struct [(0, 33)], 1, 24, .agg #[.slice none 0 0]⟩ := ⟨⟨_, Tryz.underlying35, by kernel_rfl⟩, by kernel_rfl, rfl, fun h => nomatch h⟩
theorem ty37 : TI.ok Tryz.prog 37 ⟨.fn, 1, 8, .nilFunc⟩ := ⟨⟨_, _, _, Tryz.underlying37⟩, by kernel_rfl, rfl, fun _ => rfl⟩
theorem ty38 : TI.ok Tryz.prog 38 ⟨.fn, 1, 8, .nilFunc⟩ := ⟨⟨_, _, _, Tryz.underlying38⟩, by kernel_rfl, rfl, fun _ => rfl⟩
theorem ty40 : TI.ok Tryz.prog 40 ⟨.fn, 1, 8, .nilFunc⟩ := ⟨⟨_, _, _, Tryz.underlying40⟩, by kernel_rfl, rfl, fun _ => rfl⟩
theorem ty42 : TI.ok Tryz.prog 42 ⟨.fn, 1, 8, .nilFunc⟩ := ⟨⟨_, _, _, Tryz.underlying42⟩, by kernel_rfl, rfl, fun _ => rfl⟩
theorem ty43 : TI.ok Tryz.prog 43 ⟨.ptr 46, 1, 8, .pointer none⟩ := ⟨Tryz.underlying43, by kernel_rfl, rfl, fun _ => rfl⟩
theorem ty44 : TI.ok Tryz.prog 44 ⟨.int .u64, 1, 8, .int .u64 0⟩ := ⟨Tryz.underlying44, by kernel_rfl, rfl, fun _ => rfl⟩
theorem ty45 : TI.ok Tryz.prog 45 ⟨.struct [(0, 22), (1, 3), (2, 44)], 3, 40, .agg #[.slice none 0 0, .int .i64 0, .int .u64 0]⟩ := ⟨⟨_, Tryz.underlying45, by kernel_rfl⟩, by kernel_rfl, rfl, fun h => nomatch h⟩
theorem ty46 : TI.ok Tryz.prog 46 ⟨.struct [(0, 22), (1, 3), (2, 44)], 3, 40, .agg #[.slice none 0 0, .int .i64 0, .int .u64 0]⟩ := ⟨⟨_, Tryz.underlying46, by kernel_rfl⟩, by kernel_rfl, rfl, fun h => nomatch h⟩
theorem ty47 : TI.ok Tryz.prog 47 ⟨.fn, 1, 8, .nilFunc⟩ := ⟨⟨_, _, _, Tryz.underlying47⟩, by kernel_rfl, rfl, fun _ => rfl⟩
theorem ty49 : TI.ok Tryz.prog 49 ⟨.fn, 1, 8, .nilFunc⟩ := ⟨⟨_, _, _, Tryz.underlying49⟩, by kernel_rfl, rfl, fun _ => rfl⟩
theorem ty50 : TI.ok Tryz.prog 50 ⟨.fn, 1, 8, .nilFunc⟩ := ⟨⟨_, _, _, Tryz.underlying50⟩, by kernel_rfl, rfl, fun _ => rfl⟩
theorem ty51 : TI.ok Tryz.prog 51 ⟨.fn, 1, 8, .nilFunc⟩ := ⟨⟨_, _, _, Tryz.underlying51⟩, by kernel_rfl, rfl, fun _ => rfl⟩
theorem ty52 : TI.ok Tryz.prog 52 ⟨.fn, 1, 8, .nilFunc⟩ := ⟨⟨_, _, _, Tryz.underlying52⟩, by kernel_rfl, rfl, fun _ => rfl⟩
theorem ty53 : TI.ok Tryz.prog 53 ⟨.fn, 1, 8, .nilFunc⟩ := ⟨⟨_, _, _, Tryz.underlying53⟩, by kernel_rfl, rfl, fun _ => rfl⟩
theorem ty54 : TI.ok Tryz.prog 54 ⟨.fn, 1, 8, .nilFunc⟩ := ⟨⟨_, _, _, Tryz.underlying54⟩, by kernel_rfl, rfl, fun _ => rfl⟩
theorem ty55 : TI.ok Tryz.prog 55 ⟨.fn, 1, 8, .nilFunc⟩ := ⟨⟨_, _, _, Tryz.underlying55⟩, by kernel_rfl, rfl, fun _ => rfl⟩
theorem ty56 : TI.ok Tryz.prog 56 ⟨.fn, 1, 8, .nilFunc⟩ := ⟨⟨_, _, _, Tryz.underlying56⟩, by kernel_rfl, rfl, fun _ => rfl⟩
theorem ty57 : TI.ok Tryz.prog 57 ⟨.fn, 1, 8, .nilFunc⟩ := ⟨⟨_, _, _, Tryz.underlying57⟩, by kernel_rfl, rfl, fun _ => rfl⟩
theorem ty58 : TI.ok Tryz.prog 58 ⟨.fn, 1, 8, .nilFunc⟩ := ⟨⟨_, _, _, Tryz.underlying58⟩, by kernel_rfl, rfl, fun _ => rfl⟩
theorem ty59 : TI.ok Tryz.prog 59 ⟨.fn, 1, 8, .nilFunc⟩ := ⟨⟨_, _, _, Tryz.underlying59⟩, by kernel_rfl, rfl, fun _ => rfl⟩
theorem ty60 : TI.ok Tryz.prog 60 ⟨.fn, 1, 8, .nilFunc⟩ := ⟨⟨_, _, _, Tryz.underlying60⟩, by kernel_rfl, rfl, fun _ => rfl⟩
theorem ty61 : TI.ok Tryz.prog 61 ⟨.fn, 1, 8, .nilFunc⟩ := ⟨⟨_, _, _, Tryz.underlying61⟩, by kernel_rfl, rfl, fun _ => rfl⟩
theorem ty62 : TI.ok Tryz.prog 62 ⟨.fn, 1, 8, .nilFunc⟩ := ⟨⟨_, _, _, Tryz.underlying62⟩, by kernel_rfl, rfl, fun _ => rfl⟩
theorem ty63 : TI.ok Tryz.prog 63 ⟨.fn, 1, 8, .nilFunc⟩ := ⟨⟨_, _, _, Tryz.underlying63⟩, by kernel_rfl, rfl, fun _ => rfl⟩
theorem ty64 : TI.ok Tryz.prog 64 ⟨.fn, 1, 8, .nilFunc⟩ := ⟨⟨_, _, _, Tryz.underlying64⟩, by kernel_rfl, rfl, fun _ => rfl⟩
theorem ty65 : TI.ok Tryz.prog 65 ⟨.fn, 1, 8, .nilFunc⟩ := ⟨⟨_, _, _, Tryz.underlying65⟩, by kernel_rfl, rfl, fun _ => rfl⟩
theorem ty66 : TI.ok Tryz.prog 66 ⟨.fn, 1, 8, .nilFunc⟩ := ⟨⟨_, _, _, Tryz.underlying66⟩, by kernel_rfl, rfl, fun _ => rfl⟩
theorem ty67 : TI.ok Tryz.prog 67 ⟨.fn, 1, 8, .nilFunc⟩ := ⟨⟨_, _, _, Tryz.underlying67⟩, by kernel_rfl, rfl, fun _ => rfl⟩
theorem ty68 : TI.ok Tryz.prog 68 ⟨.fn, 1, 8, .nilFunc⟩ := ⟨⟨_, _, _, Tryz.underlying68⟩, by kernel_rfl, rfl, fun _ => rfl⟩
theorem ty69 : TI.ok Tryz.prog 69 ⟨.fn, 1, 8, .nilFunc⟩ := ⟨⟨_, _, _, Tryz.underlying69⟩, by kernel_rfl, rfl, fun _ => rfl⟩
theorem ty70 : TI.ok Tryz.prog 70 ⟨.struct [(0, 9), (1, 30)], 3, 56, .agg #[.string ⟨#[]⟩, .string ⟨#[]⟩, .slice none 0 0]⟩ := ⟨⟨_, Tryz.underlying70, by kernel_rfl⟩, by kernel_rfl, rfl, fun h => nomatch h⟩
theorem ty71 : TI.ok Tryz.prog 71 ⟨.struct [(0, 9), (1, 30)], 3, 56, .agg #[.string ⟨#[]⟩, .string ⟨#[]⟩, .slice none 0 0]⟩ := ⟨⟨_, Tryz.underlying71, by kernel_rfl⟩, by kernel_rfl, rfl, fun h => nomatch h⟩
theorem ty72 : TI.ok Tryz.prog 72 ⟨.fn, 1, 8, .nilFunc⟩ := ⟨⟨_, _, _, Tryz.underlying72⟩, by kernel_rfl, rfl, fun _ => rfl⟩
theorem ty73 : TI.ok Tryz.prog 73 ⟨.fn, 1, 8, .nilFunc⟩ := ⟨⟨_, _, _, Tryz.underlying73⟩, by kernel_rfl, rfl, fun _ => rfl⟩
theorem ty74 : TI.ok Tryz.prog 74 ⟨.fn, 1, 8, .nilFunc⟩ := ⟨⟨_, _, _, Tryz.underlying74⟩, by kernel_rfl, rfl, fun _ => rfl⟩
theorem ty75 : TI.ok Tryz.prog 75 ⟨.fn, 1, 8, .nilFunc⟩ := ⟨⟨_, _, _, Tryz.underlying75⟩, by kernel_rfl, rfl, fun _ => rfl⟩
theorem ty76 : TI.ok Tryz.prog 76 ⟨.fn, 1, 8, .nilFunc⟩ := ⟨⟨_, _, _, Tryz.underlying76⟩, by kernel_rfl, rfl, fun _ => rfl⟩
theorem ty78 : TI.ok Tryz.prog 78 ⟨.fn, 1, 8, .nilFunc⟩ := ⟨⟨_, _, _, Tryz.underlying78⟩, by kernel_rfl, rfl, fun _ => rfl⟩
theorem ty79 : TI.ok Tryz.prog 79 ⟨.fn, 1, 8, .nilFunc⟩ := ⟨⟨_, _, _, Tryz.underlying79⟩, by kernel_rfl, rfl, fun _ => rfl⟩
theorem ty80 : TI.ok Tryz.prog 80 ⟨.fn, 1, 8, .nilFunc⟩ := ⟨⟨_, _, _, Tryz.underlying80⟩, by kernel_rfl, rfl, fun _ => rfl⟩
theorem ty81 : TI.ok Tryz.prog 81 ⟨.fn, 1, 8, .nilFunc⟩ := ⟨⟨_, _, _, Tryz.underlying81⟩, by kernel_rfl, rfl, fun _ => rfl⟩
theorem ty82 : TI.ok Tryz.prog 82 ⟨.fn, 1, 8, .nilFunc⟩ := ⟨⟨_, _, _, Tryz.underlying82⟩, by kernel_rfl, rfl, fun _ => rfl⟩
theorem ty83 : TI.ok Tryz.prog 83 ⟨.fn, 1, 8, .nilFunc⟩ := ⟨⟨_, _, _, Tryz.underlying83⟩, by kernel_rfl, rfl, fun _ => rfl⟩
theorem ty84 : TI.ok Tryz.prog 84 ⟨.fn, 1, 8, .nilFunc⟩ := ⟨⟨_, _, _, Tryz.underlying84⟩, by kernel_rfl, rfl, fun _ => rfl⟩
theorem ty85 : TI.ok Tryz.prog 85 ⟨.fn, 1, 8, .nilFunc⟩ := ⟨⟨_, _, _, Tryz.underlying85⟩, by kernel_rfl, rfl, fun _ => rfl⟩
theorem ty86 : TI.ok Tryz.prog 86 ⟨.fn, 1, 8, .nilFunc⟩ := ⟨⟨_, _, _, Tryz.underlying86⟩, by kernel_rfl, rfl, fun _ => rfl⟩
theorem ty87 : TI.ok Tryz.prog 87 ⟨.fn, 1, 8, .nilFunc⟩ := ⟨⟨_, _, _, Tryz.underlying87⟩, by kernel_rfl, rfl, fun _ => rfl⟩
theorem ty88 : TI.ok Tryz.prog 88 ⟨.fn, 1, 8, .nilFunc⟩ := ⟨⟨_, _, _, Tryz.underlying88⟩, by kernel_rfl, rfl, fun _ => rfl⟩
theorem ty89 : TI.ok Tryz.prog 89 ⟨.fn, 1, 8, .nilFunc⟩ := ⟨⟨_, _, _, Tryz.underlying89⟩, by kernel_rfl, rfl, fun _ => rfl⟩
theorem ty90 : TI.ok Tryz.prog 90 ⟨.fn, 1, 8, .nilFunc⟩ := ⟨⟨_, _, _, Tryz.underlying90⟩, by kernel_rfl, rfl, fun _ => rfl⟩
theorem ty91 : TI.ok Tryz.prog 91 ⟨.fn, 1, 8, .nilFunc⟩ := ⟨⟨_, _, _, Tryz.underlying91⟩, by kernel_rfl, rfl, fun _ => rfl⟩
theorem ty92 : TI.ok Tryz.prog 92 ⟨.int .u64, 1, 8, .int .u64 0⟩ := ⟨Tryz.underlying92, by kernel_rfl, rfl, fun _ => rfl⟩
theorem ty93 : TI.ok Tryz.prog 93 ⟨.fn, 1, 8, .nilFunc⟩ := ⟨⟨_, _, _, Tryz.underlying93⟩, by kernel_rfl, rfl, fun _ => rfl⟩
theorem ty94 : TI.ok Tryz.prog 94 ⟨.fn, 1, 8, .nilFunc⟩ := ⟨⟨_, _, _, Tryz.underlying94⟩, by kernel_rfl, rfl, fun _ => rfl⟩
theorem ty95 : TI.ok Tryz.prog 95 ⟨.fn, 1, 8, .nilFunc⟩ := ⟨⟨_, _, _, Tryz.underlying95⟩, by kernel_rfl, rfl, fun _ => rfl⟩
theorem ty96 : TI.ok Tryz.prog 96 ⟨.fn, 1, 8, .nilFunc⟩ := ⟨⟨_, _, _, Tryz.underlying96⟩, by kernel_rfl, rfl, fun _ => rfl⟩
theorem ty97 : TI.ok Tryz.prog 97 ⟨.fn, 1, 8, .nilFunc⟩ := ⟨⟨_, _, _, Tryz.underlying97⟩, by kernel_rfl, rfl, fun _ => rfl⟩
theorem ty98 : TI.ok Tryz.prog 98 ⟨.fn, 1, 8, .nilFunc⟩ := ⟨⟨_, _, _, Tryz.underlying98⟩, by kernel_rfl, rfl, fun _ => rfl⟩
theorem ty99 : TI.ok Tryz.prog 99 ⟨.fn, 1, 8, .nilFunc⟩ := ⟨⟨_, _, _, Tryz.underlying99⟩, by kernel_rfl, rfl, fun _ => rfl⟩
theorem ty100 : TI.ok Tryz.prog 100 ⟨.fn, 1, 8, .nilFunc⟩ := ⟨⟨_, _, _, Tryz.underlying100⟩, by kernel_rfl, rfl, fun _ => rfl⟩
theorem ty101 : TI.ok Tryz.prog 101 ⟨.fn, 1, 8, .nilFunc⟩ := ⟨⟨_, _, _, Tryz.underlying101⟩, by kernel_rfl, rfl, fun _ => rfl⟩
theorem ty102 : TI.ok Tryz.prog 102 ⟨.int .i64, 1, 8, .int .i64 0⟩ := ⟨Tryz.underlying102, by kernel_rfl, rfl, fun _ => rfl⟩
theorem ty104 : TI.ok Tryz.prog 104 ⟨.fn, 1, 8, .nilFunc⟩ := ⟨⟨_, _, _, Tryz.underlying104⟩, by kernel_rfl, rfl, fun _ => rfl⟩
theorem ty105 : TI.ok Tryz.prog 105 ⟨.fn, 1, 8, .nilFunc⟩ := ⟨⟨_, _, _, Tryz.underlying105⟩, by kernel_rfl, rfl, fun _ => rfl⟩
theorem ty106 : TI.ok Tryz.prog 106 ⟨.fn, 1, 8, .nilFunc⟩ := ⟨⟨_, _, _, Tryz.underlying106⟩, by kernel_rfl, rfl, fun _ => rfl⟩
theorem ty107 : TI.ok Tryz.prog 107 ⟨.fn, 1, 8, .nilFunc⟩ := ⟨⟨_, _, _, Tryz.underlying107⟩, by kernel_rfl, rfl, fun _ => rfl⟩
theorem ty108 : TI.ok Tryz.prog 108 ⟨.fn, 1, 8, .nilFunc⟩ := ⟨⟨_, _, _, Tryz.underlying108⟩, by kernel_rfl, rfl, fun _ => rfl⟩
theorem ty109 : TI.ok Tryz.prog 109 ⟨.fn, 1, 8, .nilFunc⟩ := ⟨⟨_, _, _, Tryz.underlying109⟩, by kernel_rfl, rfl, fun _ => rfl⟩
theorem ty110 : TI.ok Tryz.prog 110 ⟨.int .u32, 1, 4, .int .u32 0⟩ := ⟨Tryz.underlying110, by kernel_rfl, rfl, fun _ => rfl⟩
theorem ty111 : TI.ok Tryz.prog 111 ⟨.fn, 1, 8, .nilFunc⟩ := ⟨⟨_, _, _, Tryz.underlying111⟩, by kernel_rfl, rfl, fun _ => rfl⟩
theorem ty112 : TI.ok Tryz.prog 112 ⟨.int .u64, 1, 8, .int .u64 0⟩ := ⟨Tryz.underlying112, by kernel_rfl, rfl, fun _ => rfl⟩
theorem ty113 : TI.ok Tryz.prog 113 ⟨.fn, 1, 8, .nilFunc⟩ := ⟨⟨_, _, _, Tryz.underlying113⟩, by kernel_rfl, rfl, fun _ => rfl⟩
theorem ty114 : TI.ok Tryz.prog 114 ⟨.fn, 1, 8, .nilFunc⟩ := ⟨⟨_, _, _, Tryz.underlying114⟩, by kernel_rfl, rfl, fun _ => rfl⟩
theorem ty115 : TI.ok Tryz.prog 115 ⟨.fn, 1, 8, .nilFunc⟩ := ⟨⟨_, _, _, Tryz.underlying115⟩, by kernel_rfl, rfl, fun _ => rfl⟩
theorem ty116 : TI.ok Tryz.prog 116 ⟨.ptr 3, 1, 8, .pointer none⟩ := ⟨Tryz.underlying116, by kernel_rfl, rfl, fun _ => rfl⟩
theorem ty117 : TI.ok Tryz.prog 117 ⟨.fn, 1, 8, .nilFunc⟩ := ⟨⟨_, _, _, Tryz.underlying117⟩, by kernel_rfl, rfl, fun _ => rfl⟩
theorem ty118 : TI.ok Tryz.prog 118 ⟨.ptr 112, 1, 8, .pointer none⟩ := ⟨Tryz.underlying118, by kernel_rfl, rfl, fun _ => rfl⟩
theorem ty120 : TI.ok Tryz.prog 120 ⟨.fn, 1, 8, .nilFunc⟩ := ⟨⟨_, _, _, Tryz.underlying120⟩, by kernel_rfl, rfl, fun _ => rfl⟩
theorem ty121 : TI.ok Tryz.prog 121 ⟨.fn, 1, 8, .nilFunc⟩ := ⟨⟨_, _, _, Tryz.underlying121⟩, by kernel_rfl, rfl, fun _ => rfl⟩
theorem ty129 : TI.ok Tryz.prog 129 ⟨.fn, 1, 8, .nilFunc⟩ := ⟨⟨_, _, _, Tryz.underlying129⟩, by kernel_rfl, rfl, fun _ => rfl⟩
theorem ty130 : TI.ok Tryz.prog 130 ⟨.ptr 5, 1, 8, .pointer none⟩ := ⟨Tryz.underlying130, by kernel_rfl, rfl, fun _ => rfl⟩
theorem ty133 : TI.ok Tryz.prog 133 ⟨.struct [(0, 12), (1, 12), (2, 110), (3, 127), (4, 5), (5, 5), (6, 128), (7, 129), (8, 130), (9, 131), (10, 132)], 11, 48, .agg #[.int .u64 0, .int .u64 0, .int .u32 0, .int .u8 0, .int .u8 0, .int .u8 0, .int .u8 0, .nilFunc, .pointer none, .int .i32 0, .int .i32 0]⟩ := ⟨⟨_, Tryz.underlying133, by kernel_rfl⟩, by kernel_rfl, rfl, fun h => nomatch h⟩
theorem ty135 : TI.ok Tryz.prog 135 ⟨.fn, 1, 8, .nilFunc⟩ := ⟨⟨_, _, _, Tryz.underlying135⟩, by kernel_rfl, rfl, fun _ => rfl⟩
def tyTab : List (Option TI) := [none, some ⟨.fn, 1, 8, .nilFunc⟩, some ⟨.int .i64, 1, 8, .int .i64 0⟩, some ⟨.int .i64, 1, 8, .int .i64 0⟩, some ⟨.bool, 1, 1, .bool false⟩, some ⟨.int .u8, 1, 1, .int .u8 0⟩, none, none, none, some ⟨.str, 1, 16, .string ⟨#[]⟩⟩, none, none, some ⟨.int .u64, 1, 8, .int .u64 0⟩, none, none, none, none, some ⟨.ptr 134, 1, 8, .pointer none⟩, none, none, none, some ⟨.int .i32, 1, 4, .int .i32 0⟩, some ⟨.slice 5, 1, 24, .slice none 0 0⟩, some ⟨.fn, 1, 8, .nilFunc⟩, some ⟨.slice 9, 1, 24, .slice none 0 0⟩, some ⟨.slice 3, 1, 24, .slice none 0 0⟩, some ⟨.struct [(0, 24), (1, 25), (2, 3)], 3, 56, .agg #[.slice none 0 0, .slice none 0 0, .int .i64 0]⟩, some ⟨.struct [(0, 24), (1, 25), (2, 3)], 3, 56, .agg #[.slice none 0 0, .slice none 0 0, .int .i64 0]⟩, some ⟨.slice 30, 1, 24, .slice none 0 0⟩, some ⟨.struct [(0, 9), (1, 28)], 2, 40, .agg #[.string ⟨#[]⟩, .slice none 0 0]⟩, some ⟨.struct [(0, 9), (1, 28)], 2, 40, .agg #[.string ⟨#[]⟩, .slice none 0 0]⟩, none, some ⟨.fn, 1, 8, .nilFunc⟩, some ⟨.slice 71, 1, 24, .slice none 0 0⟩, some ⟨.struct [(0, 33)], 1, 24, .agg #[.slice none 0 0]⟩, some ⟨.struct [(0, 33)], 1, 24, .agg #[.slice none 0 0]⟩, none, some ⟨.fn, 1, 8, .nilFunc⟩, some ⟨.fn, 1, 8, .nilFunc⟩, none, some ⟨.fn, 1, 8, .nilFunc⟩, none, some ⟨.fn, 1, 8, .nilFunc⟩, some ⟨.ptr 46, 1, 8, .pointer none⟩, some ⟨.int .u64, 1, 8, .int .u64 0⟩, some ⟨.struct [(0, 22), (1, 3), (2, 44)], 3, 40, .agg #[.slice none 0 0, .int .i64 0, .int .u64 0]⟩, some ⟨.struct [(0, 22), (1, 3), (2, 44)], 3, 40, .agg #[.slice none 0 0, .int .i64 0, .int .u64 0]⟩, some ⟨.fn, 1, 8, .nilFunc⟩, none, some ⟨.fn, 1, 8, .nilFunc⟩, some ⟨.fn, 1, 8, .nilFunc⟩, some ⟨.fn, 1, 8, .nilFunc⟩, some ⟨.fn, 1, 8, .nilFunc⟩, some ⟨.fn, 1, 8, .nilFunc⟩, some ⟨.fn, 1, 8, .nilFunc⟩, some ⟨.fn, 1, 8, .nilFunc⟩, some ⟨.fn, 1, 8, .nilFunc⟩, some ⟨.fn, 1, 8, .nilFunc⟩, some ⟨.fn, 1, 8, .nilFunc⟩, some ⟨.fn, 1, 8, .nilFunc⟩, some ⟨.fn, 1, 8, .nilFunc⟩, some ⟨.fn, 1, 8, .nilFunc⟩, some ⟨.fn, 1, 8, .nilFunc⟩, some ⟨.fn, 1, 8, .nilFunc⟩, some ⟨.fn, 1, 8, .nilFunc⟩, some ⟨.fn, 1, 8, .nilFunc⟩, some ⟨.fn, 1, 8, .nilFunc⟩, some ⟨.fn, 1, 8, .nilFunc⟩, some ⟨.fn, 1, 8, .nilFunc⟩, some ⟨.fn, 1, 8, .nilFunc⟩, some ⟨.struct [(0, 9), (1, 30)], 3, 56, .agg #[.string ⟨#[]⟩, .string ⟨#[]⟩, .slice none 0 0]⟩, some ⟨.struct [(0, 9), (1, 30)], 3, 56, .agg #[.string ⟨#[]⟩, .string ⟨#[]⟩, .slice none 0 0]⟩, some ⟨.fn, 1, 8, .nilFunc⟩, some ⟨.fn, 1, 8, .nilFunc⟩, some ⟨.fn, 1, 8, .nilFunc⟩, some ⟨.fn, 1, 8, .nilFunc⟩, some ⟨.fn, 1, 8, .nilFunc⟩, none, some ⟨.fn, 1, 8, .nilFunc⟩, some ⟨.fn, 1, 8, .nilFunc⟩, some ⟨.fn, 1, 8, .nilFunc⟩, some ⟨.fn, 1, 8, .nilFunc⟩, some ⟨.fn, 1, 8, .nilFunc⟩, some ⟨.fn, 1, 8, .nilFunc⟩, some ⟨.fn, 1, 8, .nilFunc⟩, some ⟨.fn, 1, 8, .nilFunc⟩, some ⟨.fn, 1, 8, .nilFunc⟩, some ⟨.fn, 1, 8, .nilFunc⟩, some ⟨.fn, 1, 8, .nilFunc⟩, some ⟨.fn, 1, 8, .nilFunc⟩, some ⟨.fn, 1, 8, .nilFunc⟩, some ⟨.fn, 1, 8, .nilFunc⟩, some ⟨.int .u64, 1, 8, .int .u64 0⟩, some ⟨.fn, 1, 8, .nilFunc⟩, some ⟨.fn, 1, 8, .nilFunc⟩, some ⟨.fn, 1, 8, .nilFunc⟩, some ⟨.fn, 1, 8, .nilFunc⟩, some ⟨.fn, 1, 8, .nilFunc⟩, some ⟨.fn, 1, 8, .nilFunc⟩, some ⟨.fn, 1, 8, .nilFunc⟩, some ⟨.fn, 1, 8, .nilFunc⟩, some ⟨.fn, 1, 8, .nilFunc⟩, some ⟨.int .i64, 1, 8, .int .i64 0⟩, none, some ⟨.fn, 1, 8, .nilFunc⟩, some ⟨.fn, 1, 8, .nilFunc⟩, some ⟨.fn, 1, 8, .nilFunc⟩, some ⟨.fn, 1, 8, .nilFunc⟩, some ⟨.fn, 1, 8, .nilFunc⟩, some ⟨.fn, 1, 8, .nilFunc⟩, some ⟨.int .u32, 1, 4, .int .u32 0⟩, some ⟨.fn, 1, 8, .nilFunc⟩, some ⟨.int .u64, 1, 8, .int .u64 0⟩, some ⟨.fn, 1, 8, .nilFunc⟩, some ⟨.fn, 1, 8, .nilFunc⟩, some ⟨.fn, 1, 8, .nilFunc⟩, some ⟨.ptr 3, 1, 8, .pointer none⟩, some ⟨.fn, 1, 8, .nilFunc⟩, some ⟨.ptr 112, 1, 8, .pointer none⟩, none, some ⟨.fn, 1, 8, .nilFunc⟩, some ⟨.fn, 1, 8, .nilFunc⟩, none, none, none, none, none, none, none, some ⟨.fn, 1, 8, .nilFunc⟩, some ⟨.ptr 5, 1, 8, .pointer none⟩, none, none, some ⟨.struct [(0, 12), (1, 12), (2, 110), (3, 127), (4, 5), (5, 5), (6, 128), (7, 129), (8, 130), (9, 131), (10, 132)], 11, 48, .agg #[.int .u64 0, .int .u64 0, .int .u32 0, .int .u8 0, .int .u8 0, .int .u8 0, .int .u8 0, .nilFunc, .pointer none, .int .i32 0, .int .i32 0]⟩, none, some ⟨.fn, 1, 8, .nilFunc⟩]
theorem tyok : TyOk Tryz.prog (tyD tyTab) := AllTy.ok ⟨ty1, ty2, ty3, ty4, ty5, ty9, ty12, ty17, ty21, ty22, ty23, ty24, ty25, ty26, ty27, ty28, ty29, ty30, ty32, ty33, ty34, ty35, ty37, ty38, ty40, ty42, ty43, ty44, ty45, ty46, ty47, ty49, ty50, ty51, ty52, ty53, ty54, ty55, ty56, ty57, ty58, ty59, ty60, ty61, ty62, ty63, ty64, ty65, ty66, ty67, ty68, ty69, ty70, ty71, ty72, ty73, ty74, ty75, ty76, ty78, ty79, ty80, ty81, ty82, ty83, ty84, ty85, ty86, ty87, ty88, ty89, ty90, ty91, ty92, ty93, ty94, ty95, ty96, ty97, ty98, ty99, ty100, ty101, ty102, ty104, ty105, ty106, ty107, ty108, ty109, ty110, ty111, ty112, ty113, ty114, ty115, ty116, ty117, ty118, ty120, ty121, ty129, ty130, ty133, ty135, trivial⟩
end Go.Proofs.YtbikhinddomhpaaGreat
