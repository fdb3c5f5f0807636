/- WRITTEN BY A PROGRAM (gen_ty.py): the types that the walks look at. -/
import Derived.Test.YtjclanocnkankaaGreatE15
import Derived.Test.YtjclanocnkankaaGreatChecked
import Derived.KernelRfl
namespace Go.Proofs.YtjclanocnkankaaGreat
open Go Go.Proofs.YtjclanocnkankaaGreat.Abs

theorem ty1 : TI.ok Tryz.prog 1 ⟨.fn, 1, 8, .nilFunc⟩ := ⟨⟨_, _, _, Tryz.underlying1⟩, by kernel_rfl, rfl, fun _ => rfl⟩
theorem ty2 : TI.ok Tryz.prog 2 ⟨.int .i64, 1, 8, .int .i64 0⟩ := ⟨Tryz.underlying2, by kernel_rfl, rfl, fun _ => rfl⟩
theorem ty3 : TI.ok Tryz.prog 3 ⟨.int .i64, 1, 8, .int .i64 0⟩ := ⟨Tryz.underlying3, by kernel_rfl, rfl, fun _ => rfl⟩
theorem ty4 : TI.ok Tryz.prog 4 ⟨.bool, 1, 1, .bool false⟩ := ⟨Tryz.underlying4, by kernel_rfl, rfl, fun _ => rfl⟩
theorem ty5 : TI.ok Tryz.prog 5 ⟨.int .u8, 1, 1, .int .u8 0⟩ := ⟨Tryz.underlying5, by kernel_rfl, rfl, fun _ => rfl⟩
theorem ty9 : TI.ok Tryz.prog 9 ⟨.str, 1, 16, .string ⟨#[]⟩⟩ := ⟨Tryz.underlying9, by kernel_rfl, rfl, fun _ => rfl⟩
theorem ty12 : TI.ok Tryz.prog 12 ⟨.int .u64, 1, 8, .int .u64 0⟩ := ⟨Tryz.underlying12, by kernel_rfl, rfl, fun _ => rfl⟩
theorem ty17 : TI.ok Tryz.prog 17 ⟨.ptr 226, 1, 8, .pointer none⟩ := ⟨Tryz.underlying17, by kernel_rfl, rfl, fun _ => rfl⟩
theorem ty21 : TI.ok Tryz.prog 21 ⟨.int .i32, 1, 4, .int .i32 0⟩ := ⟨Tryz.underlying21, by kernel_rfl, rfl, fun _ => rfl⟩
theorem ty22 : TI.ok Tryz.prog 22 ⟨.slice 9, 1, 24, .slice none 0 0⟩ := ⟨Tryz.underlying22, by kernel_rfl, rfl, fun _ => rfl⟩
theorem ty23 : TI.ok Tryz.prog 23 ⟨.slice 3, 1, 24, .slice none 0 0⟩ := ⟨Tryz.underlying23, by kernel_rfl, rfl, fun _ => rfl⟩
theorem ty24 : TI.ok Tryz.prog 24 ⟨.struct [(0, 22), (1, 23), (2, 3)], 3, 56, .agg #[.slice none 0 0, .slice none 0 0, .int .i64 0]⟩ := ⟨⟨_, Tryz.underlying24, by kernel_rfl⟩, by kernel_rfl, rfl, fun h => nomatch h⟩
theorem ty25 : TI.ok Tryz.prog 25 ⟨.struct [(0, 22), (1, 23), (2, 3)], 3, 56, .agg #[.slice none 0 0, .slice none 0 0, .int .i64 0]⟩ := ⟨⟨_, Tryz.underlying25, by kernel_rfl⟩, by kernel_rfl, rfl, fun h => nomatch h⟩
theorem ty26 : TI.ok Tryz.prog 26 ⟨.slice 28, 1, 24, .slice none 0 0⟩ := ⟨Tryz.underlying26, by kernel_rfl, rfl, fun _ => rfl⟩
theorem ty27 : TI.ok Tryz.prog 27 ⟨.struct [(0, 9), (1, 26)], 2, 40, .agg #[.string ⟨#[]⟩, .slice none 0 0]⟩ := ⟨⟨_, Tryz.underlying27, by kernel_rfl⟩, by kernel_rfl, rfl, fun h => nomatch h⟩
theorem ty28 : TI.ok Tryz.prog 28 ⟨.struct [(0, 9), (1, 26)], 2, 40, .agg #[.string ⟨#[]⟩, .slice none 0 0]⟩ := ⟨⟨_, Tryz.underlying28, by kernel_rfl⟩, by kernel_rfl, rfl, fun h => nomatch h⟩
theorem ty29 : TI.ok Tryz.prog 29 ⟨.fn, 1, 8, .nilFunc⟩ := ⟨⟨_, _, _, Tryz.underlying29⟩, by kernel_rfl, rfl, fun _ => rfl⟩
theorem ty30 : TI.ok Tryz.prog 30 ⟨.fn, 1, 8, .nilFunc⟩ := ⟨⟨_, _, _, Tryz.underlying30⟩, by kernel_rfl, rfl, fun _ => rfl⟩
theorem ty31 : TI.ok Tryz.prog 31 ⟨.slice 33, 1, 24, .slice none 0 0⟩ := ⟨Tryz.underlying31, by kernel_rfl, rfl, fun _ => rfl⟩
theorem ty32 : TI.ok Tryz.prog 32 ⟨.struct [(0, 9), (1, 31)], 2, 40, .agg #[.string ⟨#[]⟩, .slice none 0 0]⟩ := ⟨⟨_, Tryz.underlying32, by kernel_rfl⟩, by kernel_rfl, rfl, fun h => nomatch h⟩
theorem ty33 : TI.ok Tryz.prog 33 ⟨.struct [(0, 9), (1, 31)], 2, 40, .agg #[.string ⟨#[]⟩, .slice none 0 0]⟩ := ⟨⟨_, Tryz.underlying33, by kernel_rfl⟩, by kernel_rfl, rfl, fun h => nomatch h⟩
theorem ty35 : TI.ok Tryz.prog 35 ⟨.fn, 1, 8, .nilFunc⟩ := ⟨⟨_, _, _, Tryz.underlying35⟩, by kernel_rfl, rfl, fun _ => rfl⟩
theorem ty36 : TI.ok Tryz.prog 36 ⟨.struct [(0, 22), (1, 23), (2, 3)], 3, 56, .agg #[.slice none 0 0, .slice none 0 0, .int .i64 0]⟩ := ⟨⟨_, Tryz.underlying36, by kernel_rfl⟩, by kernel_rfl, rfl, fun h => nomatch h⟩
theorem ty37 : TI.ok Tryz.prog 37 ⟨.fn, 1, 8, .nilFunc⟩ := ⟨⟨_, _, _, Tryz.underlying37⟩, by kernel_rfl, rfl, fun _ => rfl⟩
theorem ty38 : TI.ok Tryz.prog 38 ⟨.fn, 1, 8, .nilFunc⟩ := ⟨⟨_, _, _, Tryz.underlying38⟩, by kernel_rfl, rfl, fun _ => rfl⟩
theorem ty39 : TI.ok Tryz.prog 39 ⟨.fn, 1, 8, .nilFunc⟩ := ⟨⟨_, _, _, Tryz.underlying39⟩, by kernel_rfl, rfl, fun _ => rfl⟩
theorem ty40 : TI.ok Tryz.prog 40 ⟨.fn, 1, 8, .nilFunc⟩ := ⟨⟨_, _, _, Tryz.underlying40⟩, by kernel_rfl, rfl, fun _ => rfl⟩
theorem ty41 : TI.ok Tryz.prog 41 ⟨.fn, 1, 8, .nilFunc⟩ := ⟨⟨_, _, _, Tryz.underlying41⟩, by kernel_rfl, rfl, fun _ => rfl⟩
theorem ty42 : TI.ok Tryz.prog 42 ⟨.fn, 1, 8, .nilFunc⟩ := ⟨⟨_, _, _, Tryz.underlying42⟩, by kernel_rfl, rfl, fun _ => rfl⟩
theorem ty43 : TI.ok Tryz.prog 43 ⟨.fn, 1, 8, .nilFunc⟩ := ⟨⟨_, _, _, Tryz.underlying43⟩, by kernel_rfl, rfl, fun _ => rfl⟩
theorem ty44 : TI.ok Tryz.prog 44 ⟨.fn, 1, 8, .nilFunc⟩ := ⟨⟨_, _, _, Tryz.underlying44⟩, by kernel_rfl, rfl, fun _ => rfl⟩
theorem ty46 : TI.ok Tryz.prog 46 ⟨.fn, 1, 8, .nilFunc⟩ := ⟨⟨_, _, _, Tryz.underlying46⟩, by kernel_rfl, rfl, fun _ => rfl⟩
theorem ty47 : TI.ok Tryz.prog 47 ⟨.fn, 1, 8, .nilFunc⟩ := ⟨⟨_, _, _, Tryz.underlying47⟩, by kernel_rfl, rfl, fun _ => rfl⟩
theorem ty48 : TI.ok Tryz.prog 48 ⟨.fn, 1, 8, .nilFunc⟩ := ⟨⟨_, _, _, Tryz.underlying48⟩, by kernel_rfl, rfl, fun _ => rfl⟩
theorem ty49 : TI.ok Tryz.prog 49 ⟨.fn, 1, 8, .nilFunc⟩ := ⟨⟨_, _, _, Tryz.underlying49⟩, by kernel_rfl, rfl, fun _ => rfl⟩
theorem ty51 : TI.ok Tryz.prog 51 ⟨.fn, 1, 8, .nilFunc⟩ := ⟨⟨_, _, _, Tryz.underlying51⟩, by kernel_rfl, rfl, fun _ => rfl⟩
theorem ty52 : TI.ok Tryz.prog 52 ⟨.fn, 1, 8, .nilFunc⟩ := ⟨⟨_, _, _, Tryz.underlying52⟩, by kernel_rfl, rfl, fun _ => rfl⟩
theorem ty53 : TI.ok Tryz.prog 53 ⟨.slice 129, 1, 24, .slice none 0 0⟩ := ⟨Tryz.underlying53, by kernel_rfl, rfl, fun _ => rfl⟩
theorem ty54 : TI.ok Tryz.prog 54 ⟨.struct [(0, 53)], 1, 24, .agg #[.slice none 0 0]⟩ := ⟨⟨_, Tryz.underlying54, by kernel_rfl⟩, by kernel_rfl, rfl, fun h => nomatch h⟩
theorem ty55 : TI.ok Tryz.prog 55 ⟨.struct [(0, 53)], 1, 24, .agg #[.slice none 0 0]⟩ := ⟨⟨_, Tryz.underlying55, by kernel_rfl⟩, by kernel_rfl, rfl, fun h => nomatch h⟩
theorem ty56 : TI.ok Tryz.prog 56 ⟨.fn, 1, 8, .nilFunc⟩ := ⟨⟨_, _, _, Tryz.underlying56⟩, by kernel_rfl, rfl, fun _ => rfl⟩
theorem ty58 : TI.ok Tryz.prog 58 ⟨.fn, 1, 8, .nilFunc⟩ := ⟨⟨_, _, _, Tryz.underlying58⟩, by kernel_rfl, rfl, fun _ => rfl⟩
theorem ty59 : TI.ok Tryz.prog 59 ⟨.slice 97, 1, 24, .slice none 0 0⟩ := ⟨Tryz.underlying59, by kernel_rfl, rfl, fun _ => rfl⟩
theorem ty60 : TI.ok Tryz.prog 60 ⟨.struct [(0, 59)], 1, 24, .agg #[.slice none 0 0]⟩ := ⟨⟨_, Tryz.underlying60, by kernel_rfl⟩, by kernel_rfl, rfl, fun h => nomatch h⟩
theorem ty61 : TI.ok Tryz.prog 61 ⟨.struct [(0, 59)], 1, 24, .agg #[.slice none 0 0]⟩ := ⟨⟨_, Tryz.underlying61, by kernel_rfl⟩, by kernel_rfl, rfl, fun h => nomatch h⟩
theorem ty62 : TI.ok Tryz.prog 62 ⟨.fn, 1, 8, .nilFunc⟩ := ⟨⟨_, _, _, Tryz.underlying62⟩, by kernel_rfl, rfl, fun _ => rfl⟩
theorem ty63 : TI.ok Tryz.prog 63 ⟨.fn, 1, 8, .nilFunc⟩ := ⟨⟨_, _, _, Tryz.underlying63⟩, by kernel_rfl, rfl, fun _ => rfl⟩
theorem ty64 : TI.ok Tryz.prog 64 ⟨.fn, 1, 8, .nilFunc⟩ := ⟨⟨_, _, _, Tryz.underlying64⟩, by kernel_rfl, rfl, fun _ => rfl⟩
theorem ty65 : TI.ok Tryz.prog 65 ⟨.fn, 1, 8, .nilFunc⟩ := ⟨⟨_, _, _, Tryz.underlying65⟩, by kernel_rfl, rfl, fun _ => rfl⟩
theorem ty66 : TI.ok Tryz.prog 66 ⟨.fn, 1, 8, .nilFunc⟩ := ⟨⟨_, _, _, Tryz.underlying66⟩, by kernel_rfl, rfl, fun _ => rfl⟩
theorem ty67 : TI.ok Tryz.prog 67 ⟨.fn, 1, 8, .nilFunc⟩ := ⟨⟨_, _, _, Tryz.underlying67⟩, by kernel_rfl, rfl, fun _ => rfl⟩
theorem ty68 : TI.ok Tryz.prog 68 ⟨.slice 5, 1, 24, .slice none 0 0⟩ := ⟨Tryz.underlying68, by kernel_rfl, rfl, fun _ => rfl⟩
theorem ty69 : TI.ok Tryz.prog 69 ⟨.fn, 1, 8, .nilFunc⟩ := ⟨⟨_, _, _, Tryz.underlying69⟩, by kernel_rfl, rfl, fun _ => rfl⟩
theorem ty71 : TI.ok Tryz.prog 71 ⟨.fn, 1, 8, .nilFunc⟩ := ⟨⟨_, _, _, Tryz.underlying71⟩, by kernel_rfl, rfl, fun _ => rfl⟩
theorem ty72 : TI.ok Tryz.prog 72 ⟨.fn, 1, 8, .nilFunc⟩ := ⟨⟨_, _, _, Tryz.underlying72⟩, by kernel_rfl, rfl, fun _ => rfl⟩
theorem ty74 : TI.ok Tryz.prog 74 ⟨.fn, 1, 8, .nilFunc⟩ := ⟨⟨_, _, _, Tryz.underlying74⟩, by kernel_rfl, rfl, fun _ => rfl⟩
theorem ty75 : TI.ok Tryz.prog 75 ⟨.fn, 1, 8, .nilFunc⟩ := ⟨⟨_, _, _, Tryz.underlying75⟩, by kernel_rfl, rfl, fun _ => rfl⟩
theorem ty77 : TI.ok Tryz.prog 77 ⟨.fn, 1, 8, .nilFunc⟩ := ⟨⟨_, _, _, Tryz.underlying77⟩, by kernel_rfl, rfl, fun _ => rfl⟩
theorem ty78 : TI.ok Tryz.prog 78 ⟨.fn, 1, 8, .nilFunc⟩ := ⟨⟨_, _, _, Tryz.underlying78⟩, by kernel_rfl, rfl, fun _ => rfl⟩
theorem ty79 : TI.ok Tryz.prog 79 ⟨.fn, 1, 8, .nilFunc⟩ := ⟨⟨_, _, _, Tryz.underlying79⟩, by kernel_rfl, rfl, fun _ => rfl⟩
theorem ty80 : TI.ok Tryz.prog 80 ⟨.fn, 1, 8, .nilFunc⟩ := ⟨⟨_, _, _, Tryz.underlying80⟩, by kernel_rfl, rfl, fun _ => rfl⟩
theorem ty81 : TI.ok Tryz.prog 81 ⟨.fn, 1, 8, .nilFunc⟩ := ⟨⟨_, _, _, Tryz.underlying81⟩, by kernel_rfl, rfl, fun _ => rfl⟩
theorem ty82 : TI.ok Tryz.prog 82 ⟨.fn, 1, 8, .nilFunc⟩ := ⟨⟨_, _, _, Tryz.underlying82⟩, by kernel_rfl, rfl, fun _ => rfl⟩
theorem ty83 : TI.ok Tryz.prog 83 ⟨.fn, 1, 8, .nilFunc⟩ := ⟨⟨_, _, _, Tryz.underlying83⟩, by kernel_rfl, rfl, fun _ => rfl⟩
theorem ty84 : TI.ok Tryz.prog 84 ⟨.fn, 1, 8, .nilFunc⟩ := ⟨⟨_, _, _, Tryz.underlying84⟩, by kernel_rfl, rfl, fun _ => rfl⟩
theorem ty85 : TI.ok Tryz.prog 85 ⟨.fn, 1, 8, .nilFunc⟩ := ⟨⟨_, _, _, Tryz.underlying85⟩, by kernel_rfl, rfl, fun _ => rfl⟩
theorem ty86 : TI.ok Tryz.prog 86 ⟨.fn, 1, 8, .nilFunc⟩ := ⟨⟨_, _, _, Tryz.underlying86⟩, by kernel_rfl, rfl, fun _ => rfl⟩
theorem ty87 : TI.ok Tryz.prog 87 ⟨.fn, 1, 8, .nilFunc⟩ := ⟨⟨_, _, _, Tryz.underlying87⟩, by kernel_rfl, rfl, fun _ => rfl⟩
theorem ty88 : TI.ok Tryz.prog 88 ⟨.fn, 1, 8, .nilFunc⟩ := ⟨⟨_, _, _, Tryz.underlying88⟩, by kernel_rfl, rfl, fun _ => rfl⟩
theorem ty89 : TI.ok Tryz.prog 89 ⟨.fn, 1, 8, .nilFunc⟩ := ⟨⟨_, _, _, Tryz.underlying89⟩, by kernel_rfl, rfl, fun _ => rfl⟩
theorem ty90 : TI.ok Tryz.prog 90 ⟨.fn, 1, 8, .nilFunc⟩ := ⟨⟨_, _, _, Tryz.underlying90⟩, by kernel_rfl, rfl, fun _ => rfl⟩
theorem ty91 : TI.ok Tryz.prog 91 ⟨.fn, 1, 8, .nilFunc⟩ := ⟨⟨_, _, _, Tryz.underlying91⟩, by kernel_rfl, rfl, fun _ => rfl⟩
theorem ty92 : TI.ok Tryz.prog 92 ⟨.fn, 1, 8, .nilFunc⟩ := ⟨⟨_, _, _, Tryz.underlying92⟩, by kernel_rfl, rfl, fun _ => rfl⟩
theorem ty93 : TI.ok Tryz.prog 93 ⟨.slice 31, 1, 24, .slice none 0 0⟩ := ⟨Tryz.underlying93, by kernel_rfl, rfl, fun _ => rfl⟩
theorem ty95 : TI.ok Tryz.prog 95 ⟨.fn, 1, 8, .nilFunc⟩ := ⟨⟨_, _, _, Tryz.underlying95⟩, by kernel_rfl, rfl, fun _ => rfl⟩
theorem ty96 : TI.ok Tryz.prog 96 ⟨.struct [(0, 4), (1, 33)], 3, 48, .agg #[.bool false, .string ⟨#[]⟩, .slice none 0 0]⟩ := ⟨⟨_, Tryz.underlying96, by kernel_rfl⟩, by kernel_rfl, rfl, fun h => nomatch h⟩
theorem ty97 : TI.ok Tryz.prog 97 ⟨.struct [(0, 4), (1, 33)], 3, 48, .agg #[.bool false, .string ⟨#[]⟩, .slice none 0 0]⟩ := ⟨⟨_, Tryz.underlying97, by kernel_rfl⟩, by kernel_rfl, rfl, fun h => nomatch h⟩
theorem ty98 : TI.ok Tryz.prog 98 ⟨.fn, 1, 8, .nilFunc⟩ := ⟨⟨_, _, _, Tryz.underlying98⟩, by kernel_rfl, rfl, fun _ => rfl⟩
theorem ty99 : TI.ok Tryz.prog 99 ⟨.fn, 1, 8, .nilFunc⟩ := ⟨⟨_, _, _, Tryz.underlying99⟩, by kernel_rfl, rfl, fun _ => rfl⟩
theorem ty100 : TI.ok Tryz.prog 100 ⟨.fn, 1, 8, .nilFunc⟩ := ⟨⟨_, _, _, Tryz.underlying100⟩, by kernel_rfl, rfl, fun _ => rfl⟩
theorem ty101 : TI.ok Tryz.prog 101 ⟨.fn, 1, 8, .nilFunc⟩ := ⟨⟨_, _, _, Tryz.underlying101⟩, by kernel_rfl, rfl, fun _ => rfl⟩
theorem ty102 : TI.ok Tryz.prog 102 ⟨.fn, 1, 8, .nilFunc⟩ := ⟨⟨_, _, _, Tryz.underlying102⟩, by kernel_rfl, rfl, fun _ => rfl⟩
theorem ty103 : TI.ok Tryz.prog 103 ⟨.fn, 1, 8, .nilFunc⟩ := ⟨⟨_, _, _, Tryz.underlying103⟩, by kernel_rfl, rfl, fun _ => rfl⟩
theorem ty104 : TI.ok Tryz.prog 104 ⟨.ptr 107, 1, 8, .pointer none⟩ := ⟨Tryz.underlying104, by kernel_rfl, rfl, fun _ => rfl⟩
theorem ty105 : TI.ok Tryz.prog 105 ⟨.int .u64, 1, 8, .int .u64 0⟩ := ⟨Tryz.underlying105, by kernel_rfl, rfl, fun _ => rfl⟩
theorem ty106 : TI.ok Tryz.prog 106 ⟨.struct [(0, 68), (1, 3), (2, 105)], 3, 40, .agg #[.slice none 0 0, .int .i64 0, .int .u64 0]⟩ := ⟨⟨_, Tryz.underlying106, by kernel_rfl⟩, by kernel_rfl, rfl, fun h => nomatch h⟩
theorem ty107 : TI.ok Tryz.prog 107 ⟨.struct [(0, 68), (1, 3), (2, 105)], 3, 40, .agg #[.slice none 0 0, .int .i64 0, .int .u64 0]⟩ := ⟨⟨_, Tryz.underlying107, by kernel_rfl⟩, by kernel_rfl, rfl, fun h => nomatch h⟩
theorem ty108 : TI.ok Tryz.prog 108 ⟨.fn, 1, 8, .nilFunc⟩ := ⟨⟨_, _, _, Tryz.underlying108⟩, by kernel_rfl, rfl, fun _ => rfl⟩
theorem ty110 : TI.ok Tryz.prog 110 ⟨.fn, 1, 8, .nilFunc⟩ := ⟨⟨_, _, _, Tryz.underlying110⟩, by kernel_rfl, rfl, fun _ => rfl⟩
theorem ty111 : TI.ok Tryz.prog 111 ⟨.fn, 1, 8, .nilFunc⟩ := ⟨⟨_, _, _, Tryz.underlying111⟩, by kernel_rfl, rfl, fun _ => rfl⟩
theorem ty112 : TI.ok Tryz.prog 112 ⟨.fn, 1, 8, .nilFunc⟩ := ⟨⟨_, _, _, Tryz.underlying112⟩, by kernel_rfl, rfl, fun _ => rfl⟩
theorem ty113 : TI.ok Tryz.prog 113 ⟨.fn, 1, 8, .nilFunc⟩ := ⟨⟨_, _, _, Tryz.underlying113⟩, by kernel_rfl, rfl, fun _ => rfl⟩
theorem ty114 : TI.ok Tryz.prog 114 ⟨.fn, 1, 8, .nilFunc⟩ := ⟨⟨_, _, _, Tryz.underlying114⟩, by kernel_rfl, rfl, fun _ => rfl⟩
theorem ty115 : TI.ok Tryz.prog 115 ⟨.fn, 1, 8, .nilFunc⟩ := ⟨⟨_, _, _, Tryz.underlying115⟩, by kernel_rfl, rfl, fun _ => rfl⟩
theorem ty116 : TI.ok Tryz.prog 116 ⟨.fn, 1, 8, .nilFunc⟩ := ⟨⟨_, _, _, Tryz.underlying116⟩, by kernel_rfl, rfl, fun _ => rfl⟩
theorem ty117 : TI.ok Tryz.prog 117 ⟨.fn, 1, 8, .nilFunc⟩ := ⟨⟨_, _, _, Tryz.underlying117⟩, by kernel_rfl, rfl, fun _ => rfl⟩
theorem ty118 : TI.ok Tryz.prog 118 ⟨.fn, 1, 8, .nilFunc⟩ := ⟨⟨_, _, _, Tryz.underlying118⟩, by kernel_rfl, rfl, fun _ => rfl⟩
theorem ty119 : TI.ok Tryz.prog 119 ⟨.fn, 1, 8, .nilFunc⟩ := ⟨⟨_, _, _, Tryz.underlying119⟩, by kernel_rfl, rfl, fun _ => rfl⟩
theorem ty120 : TI.ok Tryz.prog 120 ⟨.fn, 1, 8, .nilFunc⟩ := ⟨⟨_, _, _, Tryz.underlying120⟩, by kernel_rfl, rfl, fun _ => rfl⟩
theorem ty121 : TI.ok Tryz.prog 121 ⟨.fn, 1, 8, .nilFunc⟩ := ⟨⟨_, _, _, Tryz.underlying121⟩, by kernel_rfl, rfl, fun _ => rfl⟩
theorem ty122 : TI.ok Tryz.prog 122 ⟨.fn, 1, 8, .nilFunc⟩ := ⟨⟨_, _, _, Tryz.underlying122⟩, by kernel_rfl, rfl, fun _ => rfl⟩
theorem ty124 : TI.ok Tryz.prog 124 ⟨.fn, 1, 8, .nilFunc⟩ := ⟨⟨_, _, _, Tryz.underlying124⟩, by kernel_rfl, rfl, fun _ => rfl⟩
theorem ty125 : TI.ok Tryz.prog 125 ⟨.fn, 1, 8, .nilFunc⟩ := ⟨⟨_, _, _, Tryz.underlying125⟩, by kernel_rfl, rfl, fun _ => rfl⟩
theorem ty126 : TI.ok Tryz.prog 126 ⟨.fn, 1, 8, .nilFunc⟩ := ⟨⟨_, _, _, Tryz.underlying126⟩, by kernel_rfl, rfl, fun _ => rfl⟩
theorem ty127 : TI.ok Tryz.prog 127 ⟨.fn, 1, 8, .nilFunc⟩ := ⟨⟨_, _, _, Tryz.underlying127⟩, by kernel_rfl, rfl, fun _ => rfl⟩
theorem ty128 : TI.ok Tryz.prog 128 ⟨.struct [(0, 4), (1, 28)], 3, 48, .agg #[.bool false, .string ⟨#[]⟩, .slice none 0 0]⟩ := ⟨⟨_, Tryz.underlying128, by kernel_rfl⟩, by kernel_rfl, rfl, fun h => nomatch h⟩
theorem ty129 : TI.ok Tryz.prog 129 ⟨.struct [(0, 4), (1, 28)], 3, 48, .agg #[.bool false, .string ⟨#[]⟩, .slice none 0 0]⟩ := ⟨⟨_, Tryz.underlying129, by kernel_rfl⟩, by kernel_rfl, rfl, fun h => nomatch h⟩
theorem ty130 : TI.ok Tryz.prog 130 ⟨.fn, 1, 8, .nilFunc⟩ := ⟨⟨_, _, _, Tryz.underlying130⟩, by kernel_rfl, rfl, fun _ => rfl⟩
theorem ty131 : TI.ok Tryz.prog 131 ⟨.fn, 1, 8, .nilFunc⟩ := ⟨⟨_, _, _, Tryz.underlying131⟩, by kernel_rfl, rfl, fun _ => rfl⟩
theorem ty132 : TI.ok Tryz.prog 132 ⟨.fn, 1, 8, .nilFunc⟩ := ⟨⟨_, _, _, Tryz.underlying132⟩, by kernel_rfl, rfl, fun _ => rfl⟩
theorem ty133 : TI.ok Tryz.prog 133 ⟨.fn, 1, 8, .nilFunc⟩ := ⟨⟨_, _, _, Tryz.underlying133⟩, by kernel_rfl, rfl, fun _ => rfl⟩
theorem ty134 : TI.ok Tryz.prog 134 ⟨.fn, 1, 8, .nilFunc⟩ := ⟨⟨_, _, _, Tryz.underlying134⟩, by kernel_rfl, rfl, fun _ => rfl⟩
theorem ty135 : TI.ok Tryz.prog 135 ⟨.fn, 1, 8, .nilFunc⟩ := ⟨⟨_, _, _, Tryz.underlying135⟩, by kernel_rfl, rfl, fun _ => rfl⟩
theorem ty136 : TI.ok Tryz.prog 136 ⟨.fn, 1, 8, .nilFunc⟩ := ⟨⟨_, _, _, Tryz.underlying136⟩, by kernel_rfl, rfl, fun _ => rfl⟩
theorem ty137 : TI.ok Tryz.prog 137 ⟨.fn, 1, 8, .nilFunc⟩ := ⟨⟨_, _, _, Tryz.underlying137⟩, by kernel_rfl, rfl, fun _ => rfl⟩
theorem ty139 : TI.ok Tryz.prog 139 ⟨.fn, 1, 8, .nilFunc⟩ := ⟨⟨_, _, _, Tryz.underlying139⟩, by kernel_rfl, rfl, fun _ => rfl⟩
theorem ty140 : TI.ok Tryz.prog 140 ⟨.fn, 1, 8, .nilFunc⟩ := ⟨⟨_, _, _, Tryz.underlying140⟩, by kernel_rfl, rfl, fun _ => rfl⟩
theorem ty141 : TI.ok Tryz.prog 141 ⟨.fn, 1, 8, .nilFunc⟩ := ⟨⟨_, _, _, Tryz.underlying141⟩, by kernel_rfl, rfl, fun _ => rfl⟩
theorem ty142 : TI.ok Tryz.prog 142 ⟨.fn, 1, 8, .nilFunc⟩ := ⟨⟨_, _, _, Tryz.underlying142⟩, by kernel_rfl, rfl, fun _ => rfl⟩
theorem ty143 : TI.ok Tryz.prog 143 ⟨.fn, 1, 8, .nilFunc⟩ := ⟨⟨_, _, _, Tryz.underlying143⟩, by kernel_rfl, rfl, fun _ => rfl⟩
theorem ty144 : TI.ok Tryz.prog 144 ⟨.fn, 1, 8, .nilFunc⟩ := ⟨⟨_, _, _, Tryz.underlying144⟩, by kernel_rfl, rfl, fun _ => rfl⟩
theorem ty145 : TI.ok Tryz.prog 145 ⟨.fn, 1, 8, .nilFunc⟩ := ⟨⟨_, _, _, Tryz.underlying145⟩, by kernel_rfl, rfl, fun _ => rfl⟩
theorem ty146 : TI.ok Tryz.prog 146 ⟨.fn, 1, 8, .nilFunc⟩ := ⟨⟨_, _, _, Tryz.underlying146⟩, by kernel_rfl, rfl, fun _ => rfl⟩
theorem ty147 : TI.ok Tryz.prog 147 ⟨.fn, 1, 8, .nilFunc⟩ := ⟨⟨_, _, _, Tryz.underlying147⟩, by kernel_rfl, rfl, fun _ => rfl⟩
theorem ty148 : TI.ok Tryz.prog 148 ⟨.slice 23, 1, 24, .slice none 0 0⟩ := ⟨Tryz.underlying148, by kernel_rfl, rfl, fun _ => rfl⟩
theorem ty149 : TI.ok Tryz.prog 149 ⟨.fn, 1, 8, .nilFunc⟩ := ⟨⟨_, _, _, Tryz.underlying149⟩, by kernel_rfl, rfl, fun _ => rfl⟩
theorem ty150 : TI.ok Tryz.prog 150 ⟨.fn, 1, 8, .nilFunc⟩ := ⟨⟨_, _, _, Tryz.underlying150⟩, by kernel_rfl, rfl, fun _ => rfl⟩
theorem ty151 : TI.ok Tryz.prog 151 ⟨.slice 173, 1, 24, .slice none 0 0⟩ := ⟨Tryz.underlying151, by kernel_rfl, rfl, fun _ => rfl⟩
theorem ty153 : TI.ok Tryz.prog 153 ⟨.fn, 1, 8, .nilFunc⟩ := ⟨⟨_, _, _, Tryz.underlying153⟩, by kernel_rfl, rfl, fun _ => rfl⟩
theorem ty154 : TI.ok Tryz.prog 154 ⟨.fn, 1, 8, .nilFunc⟩ := ⟨⟨_, _, _, Tryz.underlying154⟩, by kernel_rfl, rfl, fun _ => rfl⟩
theorem ty155 : TI.ok Tryz.prog 155 ⟨.fn, 1, 8, .nilFunc⟩ := ⟨⟨_, _, _, Tryz.underlying155⟩, by kernel_rfl, rfl, fun _ => rfl⟩
theorem ty156 : TI.ok Tryz.prog 156 ⟨.slice 176, 1, 24, .slice none 0 0⟩ := ⟨Tryz.underlying156, by kernel_rfl, rfl, fun _ => rfl⟩
theorem ty157 : TI.ok Tryz.prog 157 ⟨.struct [(0, 156)], 1, 24, .agg #[.slice none 0 0]⟩ := ⟨⟨_, Tryz.underlying157, by kernel_rfl⟩, by kernel_rfl, rfl, fun h => nomatch h⟩
theorem ty158 : TI.ok Tryz.prog 158 ⟨.struct [(0, 156)], 1, 24, .agg #[.slice none 0 0]⟩ := ⟨⟨_, Tryz.underlying158, by kernel_rfl⟩, by kernel_rfl, rfl, fun h => nomatch h⟩
theorem ty159 : TI.ok Tryz.prog 159 ⟨.fn, 1, 8, .nilFunc⟩ := ⟨⟨_, _, _, Tryz.underlying159⟩, by kernel_rfl, rfl, fun _ => rfl⟩
theorem ty160 : TI.ok Tryz.prog 160 ⟨.fn, 1, 8, .nilFunc⟩ := ⟨⟨_, _, _, Tryz.underlying160⟩, by kernel_rfl, rfl, fun _ => rfl⟩
theorem ty161 : TI.ok Tryz.prog 161 ⟨.map 9 33, 1, 8, .map none⟩ := ⟨Tryz.underlying161, by kernel_rfl, rfl, fun _ => rfl⟩
theorem ty162 : TI.ok Tryz.prog 162 ⟨.map 9 33, 1, 8, .map none⟩ := ⟨Tryz.underlying162, by kernel_rfl, rfl, fun _ => rfl⟩
theorem ty163 : TI.ok Tryz.prog 163 ⟨.fn, 1, 8, .nilFunc⟩ := ⟨⟨_, _, _, Tryz.underlying163⟩, by kernel_rfl, rfl, fun _ => rfl⟩
theorem ty164 : TI.ok Tryz.prog 164 ⟨.slice 4, 1, 24, .slice none 0 0⟩ := ⟨Tryz.underlying164, by kernel_rfl, rfl, fun _ => rfl⟩
theorem ty165 : TI.ok Tryz.prog 165 ⟨.fn, 1, 8, .nilFunc⟩ := ⟨⟨_, _, _, Tryz.underlying165⟩, by kernel_rfl, rfl, fun _ => rfl⟩
theorem ty166 : TI.ok Tryz.prog 166 ⟨.fn, 1, 8, .nilFunc⟩ := ⟨⟨_, _, _, Tryz.underlying166⟩, by kernel_rfl, rfl, fun _ => rfl⟩
theorem ty167 : TI.ok Tryz.prog 167 ⟨.fn, 1, 8, .nilFunc⟩ := ⟨⟨_, _, _, Tryz.underlying167⟩, by kernel_rfl, rfl, fun _ => rfl⟩
theorem ty168 : TI.ok Tryz.prog 168 ⟨.fn, 1, 8, .nilFunc⟩ := ⟨⟨_, _, _, Tryz.underlying168⟩, by kernel_rfl, rfl, fun _ => rfl⟩
theorem ty169 : TI.ok Tryz.prog 169 ⟨.fn, 1, 8, .nilFunc⟩ := ⟨⟨_, _, _, Tryz.underlying169⟩, by kernel_rfl, rfl, fun _ => rfl⟩
theorem ty170 : TI.ok Tryz.prog 170 ⟨.fn, 1, 8, .nilFunc⟩ := ⟨⟨_, _, _, Tryz.underlying170⟩, by kernel_rfl, rfl, fun _ => rfl⟩
theorem ty171 : TI.ok Tryz.prog 171 ⟨.fn, 1, 8, .nilFunc⟩ := ⟨⟨_, _, _, Tryz.underlying171⟩, by kernel_rfl, rfl, fun _ => rfl⟩
theorem ty172 : TI.ok Tryz.prog 172 ⟨.struct [(0, 9), (1, 33)], 3, 56, .agg #[.string ⟨#[]⟩, .string ⟨#[]⟩, .slice none 0 0]⟩ := ⟨⟨_, Tryz.underlying172, by kernel_rfl⟩, by kernel_rfl, rfl, fun h => nomatch h⟩
theorem ty173 : TI.ok Tryz.prog 173 ⟨.struct [(0, 9), (1, 33)], 3, 56, .agg #[.string ⟨#[]⟩, .string ⟨#[]⟩, .slice none 0 0]⟩ := ⟨⟨_, Tryz.underlying173, by kernel_rfl⟩, by kernel_rfl, rfl, fun h => nomatch h⟩
theorem ty174 : TI.ok Tryz.prog 174 ⟨.fn, 1, 8, .nilFunc⟩ := ⟨⟨_, _, _, Tryz.underlying174⟩, by kernel_rfl, rfl, fun _ => rfl⟩
theorem ty175 : TI.ok Tryz.prog 175 ⟨.struct [(0, 9), (1, 33)], 3, 56, .agg #[.string ⟨#[]⟩, .string ⟨#[]⟩, .slice none 0 0]⟩ := ⟨⟨_, Tryz.underlying175, by kernel_rfl⟩, by kernel_rfl, rfl, fun h => nomatch h⟩
theorem ty176 : TI.ok Tryz.prog 176 ⟨.struct [(0, 9), (1, 33)], 3, 56, .agg #[.string ⟨#[]⟩, .string ⟨#[]⟩, .slice none 0 0]⟩ := ⟨⟨_, Tryz.underlying176, by kernel_rfl⟩, by kernel_rfl, rfl, fun h => nomatch h⟩
theorem ty177 : TI.ok Tryz.prog 177 ⟨.fn, 1, 8, .nilFunc⟩ := ⟨⟨_, _, _, Tryz.underlying177⟩, by kernel_rfl, rfl, fun _ => rfl⟩
theorem ty178 : TI.ok Tryz.prog 178 ⟨.fn, 1, 8, .nilFunc⟩ := ⟨⟨_, _, _, Tryz.underlying178⟩, by kernel_rfl, rfl, fun _ => rfl⟩
theorem ty179 : TI.ok Tryz.prog 179 ⟨.fn, 1, 8, .nilFunc⟩ := ⟨⟨_, _, _, Tryz.underlying179⟩, by kernel_rfl, rfl, fun _ => rfl⟩
theorem ty180 : TI.ok Tryz.prog 180 ⟨.fn, 1, 8, .nilFunc⟩ := ⟨⟨_, _, _, Tryz.underlying180⟩, by kernel_rfl, rfl, fun _ => rfl⟩
theorem ty181 : TI.ok Tryz.prog 181 ⟨.fn, 1, 8, .nilFunc⟩ := ⟨⟨_, _, _, Tryz.underlying181⟩, by kernel_rfl, rfl, fun _ => rfl⟩
theorem ty182 : TI.ok Tryz.prog 182 ⟨.int .u64, 1, 8, .int .u64 0⟩ := ⟨Tryz.underlying182, by kernel_rfl, rfl, fun _ => rfl⟩
theorem ty183 : TI.ok Tryz.prog 183 ⟨.fn, 1, 8, .nilFunc⟩ := ⟨⟨_, _, _, Tryz.underlying183⟩, by kernel_rfl, rfl, fun _ => rfl⟩
theorem ty184 : TI.ok Tryz.prog 184 ⟨.fn, 1, 8, .nilFunc⟩ := ⟨⟨_, _, _, Tryz.underlying184⟩, by kernel_rfl, rfl, fun _ => rfl⟩
theorem ty185 : TI.ok Tryz.prog 185 ⟨.fn, 1, 8, .nilFunc⟩ := ⟨⟨_, _, _, Tryz.underlying185⟩, by kernel_rfl, rfl, fun _ => rfl⟩
theorem ty187 : TI.ok Tryz.prog 187 ⟨.fn, 1, 8, .nilFunc⟩ := ⟨⟨_, _, _, Tryz.underlying187⟩, by kernel_rfl, rfl, fun _ => rfl⟩
theorem ty188 : TI.ok Tryz.prog 188 ⟨.fn, 1, 8, .nilFunc⟩ := ⟨⟨_, _, _, Tryz.underlying188⟩, by kernel_rfl, rfl, fun _ => rfl⟩
theorem ty189 : TI.ok Tryz.prog 189 ⟨.fn, 1, 8, .nilFunc⟩ := ⟨⟨_, _, _, Tryz.underlying189⟩, by kernel_rfl, rfl, fun _ => rfl⟩
theorem ty190 : TI.ok Tryz.prog 190 ⟨.int .i64, 1, 8, .int .i64 0⟩ := ⟨Tryz.underlying190, by kernel_rfl, rfl, fun _ => rfl⟩
theorem ty192 : TI.ok Tryz.prog 192 ⟨.fn, 1, 8, .nilFunc⟩ := ⟨⟨_, _, _, Tryz.underlying192⟩, by kernel_rfl, rfl, fun _ => rfl⟩
theorem ty193 : TI.ok Tryz.prog 193 ⟨.fn, 1, 8, .nilFunc⟩ := ⟨⟨_, _, _, Tryz.underlying193⟩, by kernel_rfl, rfl, fun _ => rfl⟩
theorem ty194 : TI.ok Tryz.prog 194 ⟨.fn, 1, 8, .nilFunc⟩ := ⟨⟨_, _, _, Tryz.underlying194⟩, by kernel_rfl, rfl, fun _ => rfl⟩
theorem ty195 : TI.ok Tryz.prog 195 ⟨.fn, 1, 8, .nilFunc⟩ := ⟨⟨_, _, _, Tryz.underlying195⟩, by kernel_rfl, rfl, fun _ => rfl⟩
theorem ty196 : TI.ok Tryz.prog 196 ⟨.fn, 1, 8, .nilFunc⟩ := ⟨⟨_, _, _, Tryz.underlying196⟩, by kernel_rfl, rfl, fun _ => rfl⟩
theorem ty197 : TI.ok Tryz.prog 197 ⟨.fn, 1, 8, .nilFunc⟩ := ⟨⟨_, _, _, Tryz.underlying197⟩, by kernel_rfl, rfl, fun _ => rfl⟩
theorem ty198 : TI.ok Tryz.prog 198 ⟨.int .u32, 1, 4, .int .u32 0⟩ := ⟨Tryz.underlying198, by kernel_rfl, rfl, fun _ => rfl⟩
theorem ty199 : TI.ok Tryz.prog 199 ⟨.fn, 1, 8, .nilFunc⟩ := ⟨⟨_, _, _, Tryz.underlying199⟩, by kernel_rfl, rfl, fun _ => rfl⟩
theorem ty201 : TI.ok Tryz.prog 201 ⟨.fn, 1, 8, .nilFunc⟩ := ⟨⟨_, _, _, Tryz.underlying201⟩, by kernel_rfl, rfl, fun _ => rfl⟩
theorem ty203 : TI.ok Tryz.prog 203 ⟨.fn, 1, 8, .nilFunc⟩ := ⟨⟨_, _, _, Tryz.underlying203⟩, by kernel_rfl, rfl, fun _ => rfl⟩
theorem ty204 : TI.ok Tryz.prog 204 ⟨.int .u64, 1, 8, .int .u64 0⟩ := ⟨Tryz.underlying204, by kernel_rfl, rfl, fun _ => rfl⟩
theorem ty205 : TI.ok Tryz.prog 205 ⟨.fn, 1, 8, .nilFunc⟩ := ⟨⟨_, _, _, Tryz.underlying205⟩, by kernel_rfl, rfl, fun _ => rfl⟩
theorem ty206 : TI.ok Tryz.prog 206 ⟨.fn, 1, 8, .nilFunc⟩ := ⟨⟨_, _, _, Tryz.underlying206⟩, by kernel_rfl, rfl, fun _ => rfl⟩
theorem ty207 : TI.ok Tryz.prog 207 ⟨.fn, 1, 8, .nilFunc⟩ := ⟨⟨_, _, _, Tryz.underlying207⟩, by kernel_rfl, rfl, fun _ => rfl⟩
theorem ty208 : TI.ok Tryz.prog 208 ⟨.ptr 3, 1, 8, .pointer none⟩ := ⟨Tryz.underlying208, by kernel_rfl, rfl, fun _ => rfl⟩
theorem ty209 : TI.ok Tryz.prog 209 ⟨.fn, 1, 8, .nilFunc⟩ := ⟨⟨_, _, _, Tryz.underlying209⟩, by kernel_rfl, rfl, fun _ => rfl⟩
theorem ty210 : TI.ok Tryz.prog 210 ⟨.ptr 204, 1, 8, .pointer none⟩ := ⟨Tryz.underlying210, by kernel_rfl, rfl, fun _ => rfl⟩
theorem ty212 : TI.ok Tryz.prog 212 ⟨.fn, 1, 8, .nilFunc⟩ := ⟨⟨_, _, _, Tryz.underlying212⟩, by kernel_rfl, rfl, fun _ => rfl⟩
theorem ty213 : TI.ok Tryz.prog 213 ⟨.fn, 1, 8, .nilFunc⟩ := ⟨⟨_, _, _, Tryz.underlying213⟩, by kernel_rfl, rfl, fun _ => rfl⟩
theorem ty221 : TI.ok Tryz.prog 221 ⟨.fn, 1, 8, .nilFunc⟩ := ⟨⟨_, _, _, Tryz.underlying221⟩, by kernel_rfl, rfl, fun _ => rfl⟩
theorem ty222 : TI.ok Tryz.prog 222 ⟨.ptr 5, 1, 8, .pointer none⟩ := ⟨Tryz.underlying222, by kernel_rfl, rfl, fun _ => rfl⟩
theorem ty225 : TI.ok Tryz.prog 225 ⟨.struct [(0, 12), (1, 12), (2, 198), (3, 219), (4, 5), (5, 5), (6, 220), (7, 221), (8, 222), (9, 223), (10, 224)], 11, 48, .agg #[.int .u64 0, .int .u64 0, .int .u32 0, .int .u8 0, .int .u8 0, .int .u8 0, .int .u8 0, .nilFunc, .pointer none, .int .i32 0, .int .i32 0]⟩ := ⟨⟨_, Tryz.underlying225, by kernel_rfl⟩, by kernel_rfl, rfl, fun h => nomatch h⟩
theorem ty227 : TI.ok Tryz.prog 227 ⟨.fn, 1, 8, .nilFunc⟩ := ⟨⟨_, _, _, Tryz.underlying227⟩, by kernel_rfl, rfl, fun _ => rfl⟩
theorem ty228 : TI.ok Tryz.prog 228 ⟨.fn, 1, 8, .nilFunc⟩ := ⟨⟨_, _, _, Tryz.underlying228⟩, by kernel_rfl, rfl, fun _ => rfl⟩
def tyTab : List (Option TI) := [none, some ⟨.fn, 1, 8, .nilFunc⟩, some ⟨.int .i64, 1, 8, .int .i64 0⟩, some ⟨.int .i64, 1, 8, .int .i64 0⟩, some ⟨.bool, 1, 1, .bool false⟩, some ⟨.int .u8, 1, 1, .int .u8 0⟩, none, none, none, some ⟨.str, 1, 16, .string ⟨#[]⟩⟩, none, none, some ⟨.int .u64, 1, 8, .int .u64 0⟩, none, none, none, none, some ⟨.ptr 226, 1, 8, .pointer none⟩, none, none, none, some ⟨.int .i32, 1, 4, .int .i32 0⟩, some ⟨.slice 9, 1, 24, .slice none 0 0⟩, some ⟨.slice 3, 1, 24, .slice none 0 0⟩, some ⟨.struct [(0, 22), (1, 23), (2, 3)], 3, 56, .agg #[.slice none 0 0, .slice none 0 0, .int .i64 0]⟩, some ⟨.struct [(0, 22), (1, 23), (2, 3)], 3, 56, .agg #[.slice none 0 0, .slice none 0 0, .int .i64 0]⟩, some ⟨.slice 28, 1, 24, .slice none 0 0⟩, some ⟨.struct [(0, 9), (1, 26)], 2, 40, .agg #[.string ⟨#[]⟩, .slice none 0 0]⟩, some ⟨.struct [(0, 9), (1, 26)], 2, 40, .agg #[.string ⟨#[]⟩, .slice none 0 0]⟩, some ⟨.fn, 1, 8, .nilFunc⟩, some ⟨.fn, 1, 8, .nilFunc⟩, some ⟨.slice 33, 1, 24, .slice none 0 0⟩, some ⟨.struct [(0, 9), (1, 31)], 2, 40, .agg #[.string ⟨#[]⟩, .slice none 0 0]⟩, some ⟨.struct [(0, 9), (1, 31)], 2, 40, .agg #[.string ⟨#[]⟩, .slice none 0 0]⟩, none, some ⟨.fn, 1, 8, .nilFunc⟩, some ⟨.struct [(0, 22), (1, 23), (2, 3)], 3, 56, .agg #[.slice none 0 0, .slice none 0 0, .int .i64 0]⟩, some ⟨.fn, 1, 8, .nilFunc⟩, some ⟨.fn, 1, 8, .nilFunc⟩, some ⟨.fn, 1, 8, .nilFunc⟩, some ⟨.fn, 1, 8, .nilFunc⟩, some ⟨.fn, 1, 8, .nilFunc⟩, some ⟨.fn, 1, 8, .nilFunc⟩, some ⟨.fn, 1, 8, .nilFunc⟩, some ⟨.fn, 1, 8, .nilFunc⟩, none, some ⟨.fn, 1, 8, .nilFunc⟩, some ⟨.fn, 1, 8, .nilFunc⟩, some ⟨.fn, 1, 8, .nilFunc⟩, some ⟨.fn, 1, 8, .nilFunc⟩, none, some ⟨.fn, 1, 8, .nilFunc⟩, some ⟨.fn, 1, 8, .nilFunc⟩, some ⟨.slice 129, 1, 24, .slice none 0 0⟩, some ⟨.struct [(0, 53)], 1, 24, .agg #[.slice none 0 0]⟩, some ⟨.struct [(0, 53)], 1, 24, .agg #[.slice none 0 0]⟩, some ⟨.fn, 1, 8, .nilFunc⟩, none, some ⟨.fn, 1, 8, .nilFunc⟩, some ⟨.slice 97, 1, 24, .slice none 0 0⟩, some ⟨.struct [(0, 59)], 1, 24, .agg #[.slice none 0 0]⟩, some ⟨.struct [(0, 59)], 1, 24, .agg #[.slice none 0 0]⟩, some ⟨.fn, 1, 8, .nilFunc⟩, some ⟨.fn, 1, 8, .nilFunc⟩, some ⟨.fn, 1, 8, .nilFunc⟩, some ⟨.fn, 1, 8, .nilFunc⟩, some ⟨.fn, 1, 8, .nilFunc⟩, some ⟨.fn, 1, 8, .nilFunc⟩, some ⟨.slice 5, 1, 24, .slice none 0 0⟩, some ⟨.fn, 1, 8, .nilFunc⟩, none, some ⟨.fn, 1, 8, .nilFunc⟩, some ⟨.fn, 1, 8, .nilFunc⟩, none, some ⟨.fn, 1, 8, .nilFunc⟩, some ⟨.fn, 1, 8, .nilFunc⟩, none, some ⟨.fn, 1, 8, .nilFunc⟩, some ⟨.fn, 1, 8, .nilFunc⟩, some ⟨.fn, 1, 8, .nilFunc⟩, some ⟨.fn, 1, 8, .nilFunc⟩, some ⟨.fn, 1, 8, .nilFunc⟩, some ⟨.fn, 1, 8, .nilFunc⟩, some ⟨.fn, 1, 8, .nilFunc⟩, some ⟨.fn, 1, 8, .nilFunc⟩, some ⟨.fn, 1, 8, .nilFunc⟩, some ⟨.fn, 1, 8, .nilFunc⟩, some ⟨.fn, 1, 8, .nilFunc⟩, some ⟨.fn, 1, 8, .nilFunc⟩, some ⟨.fn, 1, 8, .nilFunc⟩, some ⟨.fn, 1, 8, .nilFunc⟩, some ⟨.fn, 1, 8, .nilFunc⟩, some ⟨.fn, 1, 8, .nilFunc⟩, some ⟨.slice 31, 1, 24, .slice none 0 0⟩, none, some ⟨.fn, 1, 8, .nilFunc⟩, some ⟨.struct [(0, 4), (1, 33)], 3, 48, .agg #[.bool false, .string ⟨#[]⟩, .slice none 0 0]⟩, some ⟨.struct [(0, 4), (1, 33)], 3, 48, .agg #[.bool false, .string ⟨#[]⟩, .slice none 0 0]⟩, some ⟨.fn, 1, 8, .nilFunc⟩, some ⟨.fn, 1, 8, .nilFunc⟩, some ⟨.fn, 1, 8, .nilFunc⟩, some ⟨.fn, 1, 8, .nilFunc⟩, some ⟨.fn, 1, 8, .nilFunc⟩, some ⟨.fn, 1, 8, .nilFunc⟩, some ⟨.ptr 107, 1, 8, .pointer none⟩, some ⟨.int .u64, 1, 8, .int .u64 0⟩, some ⟨.struct [(0, 68), (1, 3), (2, 105)], 3, 40, .agg #[.slice none 0 0, .int .i64 0, .int .u64 0]⟩, some ⟨.struct [(0, 68), (1, 3), (2, 105)], 3, 40, .agg #[.slice none 0 0, .int .i64 0, .int .u64 0]⟩, some ⟨.fn, 1, 8, .nilFunc⟩, none, some ⟨.fn, 1, 8, .nilFunc⟩, some ⟨.fn, 1, 8, .nilFunc⟩, some ⟨.fn, 1, 8, .nilFunc⟩, some ⟨.fn, 1, 8, .nilFunc⟩, some ⟨.fn, 1, 8, .nilFunc⟩, some ⟨.fn, 1, 8, .nilFunc⟩, some ⟨.fn, 1, 8, .nilFunc⟩, some ⟨.fn, 1, 8, .nilFunc⟩, some ⟨.fn, 1, 8, .nilFunc⟩, some ⟨.fn, 1, 8, .nilFunc⟩, some ⟨.fn, 1, 8, .nilFunc⟩, some ⟨.fn, 1, 8, .nilFunc⟩, some ⟨.fn, 1, 8, .nilFunc⟩, none, some ⟨.fn, 1, 8, .nilFunc⟩, some ⟨.fn, 1, 8, .nilFunc⟩, some ⟨.fn, 1, 8, .nilFunc⟩, some ⟨.fn, 1, 8, .nilFunc⟩, some ⟨.struct [(0, 4), (1, 28)], 3, 48, .agg #[.bool false, .string ⟨#[]⟩, .slice none 0 0]⟩, some ⟨.struct [(0, 4), (1, 28)], 3, 48, .agg #[.bool false, .string ⟨#[]⟩, .slice none 0 0]⟩, some ⟨.fn, 1, 8, .nilFunc⟩, some ⟨.fn, 1, 8, .nilFunc⟩, some ⟨.fn, 1, 8, .nilFunc⟩, some ⟨.fn, 1, 8, .nilFunc⟩, some ⟨.fn, 1, 8, .nilFunc⟩, some ⟨.fn, 1, 8, .nilFunc⟩, some ⟨.fn, 1, 8, .nilFunc⟩, some ⟨.fn, 1, 8, .nilFunc⟩, none, some ⟨.fn, 1, 8, .nilFunc⟩, some ⟨.fn, 1, 8, .nilFunc⟩, some ⟨.fn, 1, 8, .nilFunc⟩, some ⟨.fn, 1, 8, .nilFunc⟩, some ⟨.fn, 1, 8, .nilFunc⟩, some ⟨.fn, 1, 8, .nilFunc⟩, some ⟨.fn, 1, 8, .nilFunc⟩, some ⟨.fn, 1, 8, .nilFunc⟩, some ⟨.fn, 1, 8, .nilFunc⟩, some ⟨.slice 23, 1, 24, .slice none 0 0⟩, some ⟨.fn, 1, 8, .nilFunc⟩, some ⟨.fn, 1, 8, .nilFunc⟩, some ⟨.slice 173, 1, 24, .slice none 0 0⟩, none, some ⟨.fn, 1, 8, .nilFunc⟩, some ⟨.fn, 1, 8, .nilFunc⟩, some ⟨.fn, 1, 8, .nilFunc⟩, some ⟨.slice 176, 1, 24, .slice none 0 0⟩, some ⟨.struct [(0, 156)], 1, 24, .agg #[.slice none 0 0]⟩, some ⟨.struct [(0, 156)], 1, 24, .agg #[.slice none 0 0]⟩, some ⟨.fn, 1, 8, .nilFunc⟩, some ⟨.fn, 1, 8, .nilFunc⟩, some ⟨.map 9 33, 1, 8, .map none⟩, some ⟨.map 9 33, 1, 8, .map none⟩, some ⟨.fn, 1, 8, .nilFunc⟩, some ⟨.slice 4, 1, 24, .slice none 0 0⟩, some ⟨.fn, 1, 8, .nilFunc⟩, some ⟨.fn, 1, 8, .nilFunc⟩, some ⟨.fn, 1, 8, .nilFunc⟩, some ⟨.fn, 1, 8, .nilFunc⟩, some ⟨.fn, 1, 8, .nilFunc⟩, some ⟨.fn, 1, 8, .nilFunc⟩, some ⟨.fn, 1, 8, .nilFunc⟩, some ⟨.struct [(0, 9), (1, 33)], 3, 56, .agg #[.string ⟨#[]⟩, .string ⟨#[]⟩, .slice none 0 0]⟩, some ⟨.struct [(0, 9), (1, 33)], 3, 56, .agg #[.string ⟨#[]⟩, .string ⟨#[]⟩, .slice none 0 0]⟩, some ⟨.fn, 1, 8, .nilFunc⟩, some ⟨.struct [(0, 9), (1, 33)], 3, 56, .agg #[.string ⟨#[]⟩, .string ⟨#[]⟩, .slice none 0 0]⟩, some ⟨.struct [(0, 9), (1, 33)], 3, 56, .agg #[.string ⟨#[]⟩, .string ⟨#[]⟩, .slice none 0 0]⟩, some ⟨.fn, 1, 8, .nilFunc⟩, some ⟨.fn, 1, 8, .nilFunc⟩, some ⟨.fn, 1, 8, .nilFunc⟩, some ⟨.fn, 1, 8, .nilFunc⟩, some ⟨.fn, 1, 8, .nilFunc⟩, some ⟨.int .u64, 1, 8, .int .u64 0⟩, some ⟨.fn, 1, 8, .nilFunc⟩, some ⟨.fn, 1, 8, .nilFunc⟩, some ⟨.fn, 1, 8, .nilFunc⟩, none, some ⟨.fn, 1, 8, .nilFunc⟩, some ⟨.fn, 1, 8, .nilFunc⟩, some ⟨.fn, 1, 8, .nilFunc⟩, some ⟨.int .i64, 1, 8, .int .i64 0⟩, none, some ⟨.fn, 1, 8, .nilFunc⟩, some ⟨.fn, 1, 8, .nilFunc⟩, some ⟨.fn, 1, 8, .nilFunc⟩, some ⟨.fn, 1, 8, .nilFunc⟩, some ⟨.fn, 1, 8, .nilFunc⟩, some ⟨.fn, 1, 8, .nilFunc⟩, some ⟨.int .u32, 1, 4, .int .u32 0⟩, some ⟨.fn, 1, 8, .nilFunc⟩, none, some ⟨.fn, 1, 8, .nilFunc⟩, none, some ⟨.fn, 1, 8, .nilFunc⟩, some ⟨.int .u64, 1, 8, .int .u64 0⟩, some ⟨.fn, 1, 8, .nilFunc⟩, some ⟨.fn, 1, 8, .nilFunc⟩, some ⟨.fn, 1, 8, .nilFunc⟩, some ⟨.ptr 3, 1, 8, .pointer none⟩, some ⟨.fn, 1, 8, .nilFunc⟩, some ⟨.ptr 204, 1, 8, .pointer none⟩, none, some ⟨.fn, 1, 8, .nilFunc⟩, some ⟨.fn, 1, 8, .nilFunc⟩, none, none, none, none, none, none, none, some ⟨.fn, 1, 8, .nilFunc⟩, some ⟨.ptr 5, 1, 8, .pointer none⟩, none, none, some ⟨.struct [(0, 12), (1, 12), (2, 198), (3, 219), (4, 5), (5, 5), (6, 220), (7, 221), (8, 222), (9, 223), (10, 224)], 11, 48, .agg #[.int .u64 0, .int .u64 0, .int .u32 0, .int .u8 0, .int .u8 0, .int .u8 0, .int .u8 0, .nilFunc, .pointer none, .int .i32 0, .int .i32 0]⟩, none, some ⟨.fn, 1, 8, .nilFunc⟩, some ⟨.fn, 1, 8, .nilFunc⟩]
theorem tyok : TyOk Tryz.prog (tyD tyTab) := AllTy.ok ⟨ty1, ty2, ty3, ty4, ty5, ty9, ty12, ty17, ty21, ty22, ty23, ty24, ty25, ty26, ty27, ty28, ty29, ty30, ty31, ty32, ty33, ty35, ty36, ty37, ty38, ty39, ty40, ty41, ty42, ty43, ty44, ty46, ty47, ty48, ty49, ty51, ty52, ty53, ty54, ty55, ty56, ty58, ty59, ty60, ty61, ty62, ty63, ty64, ty65, ty66, ty67, ty68, ty69, ty71, ty72, ty74, ty75, ty77, ty78, ty79, ty80, ty81, ty82, ty83, ty84, ty85, ty86, ty87, ty88, ty89, ty90, ty91, ty92, ty93, ty95, ty96, ty97, ty98, ty99, ty100, ty101, ty102, ty103, ty104, ty105, ty106, ty107, ty108, ty110, ty111, ty112, ty113, ty114, ty115, ty116, ty117, ty118, ty119, ty120, ty121, ty122, ty124, ty125, ty126, ty127, ty128, ty129, ty130, ty131, ty132, ty133, ty134, ty135, ty136, ty137, ty139, ty140, ty141, ty142, ty143, ty144, ty145, ty146, ty147, ty148, ty149, ty150, ty151, ty153, ty154, ty155, ty156, ty157, ty158, ty159, ty160, ty161, ty162, ty163, ty164, ty165, ty166, ty167, ty168, ty169, ty170, ty171, ty172, ty173, ty174, ty175, ty176, ty177, ty178, ty179, ty180, ty181, ty182, ty183, ty184, ty185, ty187, ty188, ty189, ty190, ty192, ty193, ty194, ty195, ty196, ty197, ty198, ty199, ty201, ty203, ty204, ty205, ty206, ty207, ty208, ty209, ty210, ty212, ty213, ty221, ty222, ty225, ty227, ty228, trivial⟩
end Go.Proofs.YtjclanocnkankaaGreat
