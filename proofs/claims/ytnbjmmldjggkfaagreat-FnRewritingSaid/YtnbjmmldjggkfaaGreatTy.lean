/- WRITTEN BY A PROGRAM (gen_ty.py): the types that the walks look at. -/
import Derived.Test.YtnbjmmldjggkfaaGreatE15
import Derived.Test.YtnbjmmldjggkfaaGreatChecked
import Derived.KernelRfl
namespace Go.Proofs.YtnbjmmldjggkfaaGreat
open Go Go.Proofs.YtnbjmmldjggkfaaGreat.Abs

theorem ty1 : TI.ok Tryz.prog 1 ⟨.fn, 1, 8, .nilFunc⟩ := ⟨⟨_, _, _, Tryz.underlying1⟩, by kernel_rfl, rfl, fun _ => rfl⟩
theorem ty2 : TI.ok Tryz.prog 2 ⟨.int .i64, 1, 8, .int .i64 0⟩ := ⟨Tryz.underlying2, by kernel_rfl, rfl, fun _ => rfl⟩
theorem ty3 : TI.ok Tryz.prog 3 ⟨.int .i64, 1, 8, .int .i64 0⟩ := ⟨Tryz.underlying3, by kernel_rfl, rfl, fun _ => rfl⟩
theorem ty4 : TI.ok Tryz.prog 4 ⟨.bool, 1, 1, .bool false⟩ := ⟨Tryz.underlying4, by kernel_rfl, rfl, fun _ => rfl⟩
theorem ty5 : TI.ok Tryz.prog 5 ⟨.int .u8, 1, 1, .int .u8 0⟩ := ⟨Tryz.underlying5, by kernel_rfl, rfl, fun _ => rfl⟩
theorem ty9 : TI.ok Tryz.prog 9 ⟨.str, 1, 16, .string ⟨#[]⟩⟩ := ⟨Tryz.underlying9, by kernel_rfl, rfl, fun _ => rfl⟩
theorem ty12 : TI.ok Tryz.prog 12 ⟨.int .u64, 1, 8, .int .u64 0⟩ := ⟨Tryz.underlying12, by kernel_rfl, rfl, fun _ => rfl⟩
theorem ty17 : TI.ok Tryz.prog 17 ⟨.ptr 192, 1, 8, .pointer none⟩ := ⟨Tryz.underlying17, by kernel_rfl, rfl, fun _ => rfl⟩
theorem ty21 : TI.ok Tryz.prog 21 ⟨.int .i32, 1, 4, .int .i32 0⟩ := ⟨Tryz.underlying21, by kernel_rfl, rfl, fun _ => rfl⟩
theorem ty22 : TI.ok Tryz.prog 22 ⟨.slice 9, 1, 24, .slice none 0 0⟩ := ⟨Tryz.underlying22, by kernel_rfl, rfl, fun _ => rfl⟩
theorem ty23 : TI.ok Tryz.prog 23 ⟨.slice 3, 1, 24, .slice none 0 0⟩ := ⟨Tryz.underlying23, by kernel_rfl, rfl, fun _ => rfl⟩
theorem ty24 : TI.ok Tryz.prog 24 ⟨.struct [(0, 22), (1, 23), (2, 3)], 3, 56, .agg #[.slice none 0 0, .slice none 0 0, .int .i64 0]⟩ := ⟨⟨_, Tryz.underlying24, by kernel_rfl⟩, by kernel_rfl, rfl, fun h => nomatch h⟩
theorem ty25 : TI.ok Tryz.prog 25 ⟨.struct [(0, 22), (1, 23), (2, 3)], 3, 56, .agg #[.slice none 0 0, .slice none 0 0, .int .i64 0]⟩ := ⟨⟨_, Tryz.underlying25, by kernel_rfl⟩, by kernel_rfl, rfl, fun h => nomatch h⟩
theorem ty26 : TI.ok Tryz.prog 26 ⟨.slice 28, 1, 24, .slice none 0 0⟩ := ⟨Tryz.underlying26, by kernel_rfl, rfl, fun _ => rfl⟩
theorem ty27 : TI.ok Tryz.prog 27 ⟨.struct [(0, 9), (1, 26)], 2, 40, .agg #[.string ⟨#[]⟩, .slice none 0 0]⟩ := ⟨⟨_, Tryz.underlying27, by kernel_rfl⟩, by kernel_rfl, rfl, fun h => nomatch h⟩
theorem ty28 : TI.ok Tryz.prog 28 ⟨.struct [(0, 9), (1, 26)], 2, 40, .agg #[.string ⟨#[]⟩, .slice none 0 0]⟩ := ⟨⟨_, Tryz.underlying28, by kernel_rfl⟩, by kernel_rfl, rfl, fun h => nomatch h⟩
theorem ty29 : TI.ok Tryz.prog 29 ⟨.fn, 1, 8, .nilFunc⟩ := ⟨⟨_, _, _, Tryz.underlying29⟩, by kernel_rfl, rfl, fun _ => rfl⟩
theorem ty30 : TI.ok Tryz.prog 30 ⟨.fn, 1, 8, .nilFunc⟩ := ⟨⟨_, _, _, Tryz.underlying30⟩, by kernel_rfl, rfl, fun _ => rfl⟩
theorem ty31 : TI.ok Tryz.prog 31 ⟨.slice 33, 1, 24, .slice none 0 0⟩ := ⟨Tryz.underlying31, by kernel_rfl, rfl, fun _ => rfl⟩
theorem ty32 : TI.ok Tryz.prog 32 ⟨.struct [(0, 9), (1, 31)], 2, 40, .agg #[.string ⟨#[]⟩, .slice none 0 0]⟩ := ⟨⟨_, Tryz.underlying32, by kernel_rfl⟩, by kernel_rfl, rfl, fun h => nomatch h⟩
theorem ty33 : TI.ok Tryz.prog 33 ⟨.struct [(0, 9), (1, 31)], 2, 40, .agg #[.string ⟨#[]⟩, .slice none 0 0]⟩ := ⟨⟨_, Tryz.underlying33, by kernel_rfl⟩, by kernel_rfl, rfl, fun h => nomatch h⟩
theorem ty35 : TI.ok Tryz.prog 35 ⟨.fn, 1, 8, .nilFunc⟩ := ⟨⟨_, _, _, Tryz.underlying35⟩, by kernel_rfl, rfl, fun _ => rfl⟩
theorem ty36 : TI.ok Tryz.prog 36 ⟨.struct [(0, 22), (1, 23), (2, 3)], 3, 56, .agg #[.slice none 0 0, .slice none 0 0, .int .i64 0]⟩ := ⟨⟨_, Tryz.underlying36, by kernel_rfl⟩, by kernel_rfl, rfl, fun h => nomatch h⟩
theorem ty37 : TI.ok Tryz.prog 37 ⟨.fn, 1, 8, .nilFunc⟩ := ⟨⟨_, _, _, Tryz.underlying37⟩, by kernel_rfl, rfl, fun _ => rfl⟩
theorem ty38 : TI.ok Tryz.prog 38 ⟨.fn, 1, 8, .nilFunc⟩ := ⟨⟨_, _, _, Tryz.underlying38⟩, by kernel_rfl, rfl, fun _ => rfl⟩
theorem ty39 : TI.ok Tryz.prog 39 ⟨.fn, 1, 8, .nilFunc⟩ := ⟨⟨_, _, _, Tryz.underlying39⟩, by kernel_rfl, rfl, fun _ => rfl⟩
theorem ty40 : TI.ok Tryz.prog 40 ⟨.fn, 1, 8, .nilFunc⟩ := ⟨⟨_, _, _, Tryz.underlying40⟩, by kernel_rfl, rfl, fun _ => rfl⟩
theorem ty41 : TI.ok Tryz.prog 41 ⟨.fn, 1, 8, .nilFunc⟩ := ⟨⟨_, _, _, Tryz.underlying41⟩, by kernel_rfl, rfl, fun _ => rfl⟩
theorem ty42 : TI.ok Tryz.prog 42 ⟨.fn, 1, 8, .nilFunc⟩ := ⟨⟨_, _, _, Tryz.underlying42⟩, by kernel_rfl, rfl, fun _ => rfl⟩
theorem ty43 : TI.ok Tryz.prog 43 ⟨.fn, 1, 8, .nilFunc⟩ := ⟨⟨_, _, _, Tryz.underlying43⟩, by kernel_rfl, rfl, fun _ => rfl⟩
theorem ty44 : TI.ok Tryz.prog 44 ⟨.fn, 1, 8, .nilFunc⟩ := ⟨⟨_, _, _, Tryz.underlying44⟩, by kernel_rfl, rfl, fun _ => rfl⟩
theorem ty46 : TI.ok Tryz.prog 46 ⟨.fn, 1, 8, .nilFunc⟩ := ⟨⟨_, _, _, Tryz.underlying46⟩, by kernel_rfl, rfl, fun _ => rfl⟩
theorem ty47 : TI.ok Tryz.prog 47 ⟨.fn, 1, 8, .nilFunc⟩ := ⟨⟨_, _, _, Tryz.underlying47⟩, by kernel_rfl, rfl, fun _ => rfl⟩
theorem ty48 : TI.ok Tryz.prog 48 ⟨.fn, 1, 8, .nilFunc⟩ := ⟨⟨_, _, _, Tryz.underlying48⟩, by kernel_rfl, rfl, fun _ => rfl⟩
theorem ty49 : TI.ok Tryz.prog 49 ⟨.fn, 1, 8, .nilFunc⟩ := ⟨⟨_, _, _, Tryz.underlying49⟩, by kernel_rfl, rfl, fun _ => rfl⟩
theorem ty51 : TI.ok Tryz.prog 51 ⟨.fn, 1, 8, .nilFunc⟩ := ⟨⟨_, _, _, Tryz.underlying51⟩, by kernel_rfl, rfl, fun _ => rfl⟩
theorem ty52 : TI.ok Tryz.prog 52 ⟨.fn, 1, 8, .nilFunc⟩ := ⟨⟨_, _, _, Tryz.underlying52⟩, by kernel_rfl, rfl, fun _ => rfl⟩
theorem ty53 : TI.ok Tryz.prog 53 ⟨.slice 5, 1, 24, .slice none 0 0⟩ := ⟨Tryz.underlying53, by kernel_rfl, rfl, fun _ => rfl⟩
theorem ty54 : TI.ok Tryz.prog 54 ⟨.fn, 1, 8, .nilFunc⟩ := ⟨⟨_, _, _, Tryz.underlying54⟩, by kernel_rfl, rfl, fun _ => rfl⟩
theorem ty56 : TI.ok Tryz.prog 56 ⟨.fn, 1, 8, .nilFunc⟩ := ⟨⟨_, _, _, Tryz.underlying56⟩, by kernel_rfl, rfl, fun _ => rfl⟩
theorem ty57 : TI.ok Tryz.prog 57 ⟨.struct [(0, 22), (1, 23)], 2, 48, .agg #[.slice none 0 0, .slice none 0 0]⟩ := ⟨⟨_, Tryz.underlying57, by kernel_rfl⟩, by kernel_rfl, rfl, fun h => nomatch h⟩
theorem ty58 : TI.ok Tryz.prog 58 ⟨.struct [(0, 22), (1, 23)], 2, 48, .agg #[.slice none 0 0, .slice none 0 0]⟩ := ⟨⟨_, Tryz.underlying58, by kernel_rfl⟩, by kernel_rfl, rfl, fun h => nomatch h⟩
theorem ty59 : TI.ok Tryz.prog 59 ⟨.fn, 1, 8, .nilFunc⟩ := ⟨⟨_, _, _, Tryz.underlying59⟩, by kernel_rfl, rfl, fun _ => rfl⟩
theorem ty60 : TI.ok Tryz.prog 60 ⟨.fn, 1, 8, .nilFunc⟩ := ⟨⟨_, _, _, Tryz.underlying60⟩, by kernel_rfl, rfl, fun _ => rfl⟩
theorem ty61 : TI.ok Tryz.prog 61 ⟨.fn, 1, 8, .nilFunc⟩ := ⟨⟨_, _, _, Tryz.underlying61⟩, by kernel_rfl, rfl, fun _ => rfl⟩
theorem ty62 : TI.ok Tryz.prog 62 ⟨.fn, 1, 8, .nilFunc⟩ := ⟨⟨_, _, _, Tryz.underlying62⟩, by kernel_rfl, rfl, fun _ => rfl⟩
theorem ty63 : TI.ok Tryz.prog 63 ⟨.fn, 1, 8, .nilFunc⟩ := ⟨⟨_, _, _, Tryz.underlying63⟩, by kernel_rfl, rfl, fun _ => rfl⟩
theorem ty64 : TI.ok Tryz.prog 64 ⟨.fn, 1, 8, .nilFunc⟩ := ⟨⟨_, _, _, Tryz.underlying64⟩, by kernel_rfl, rfl, fun _ => rfl⟩
theorem ty65 : TI.ok Tryz.prog 65 ⟨.fn, 1, 8, .nilFunc⟩ := ⟨⟨_, _, _, Tryz.underlying65⟩, by kernel_rfl, rfl, fun _ => rfl⟩
theorem ty66 : TI.ok Tryz.prog 66 ⟨.fn, 1, 8, .nilFunc⟩ := ⟨⟨_, _, _, Tryz.underlying66⟩, by kernel_rfl, rfl, fun _ => rfl⟩
theorem ty67 : TI.ok Tryz.prog 67 ⟨.fn, 1, 8, .nilFunc⟩ := ⟨⟨_, _, _, Tryz.underlying67⟩, by kernel_rfl, rfl, fun _ => rfl⟩
theorem ty68 : TI.ok Tryz.prog 68 ⟨.fn, 1, 8, .nilFunc⟩ := ⟨⟨_, _, _, Tryz.underlying68⟩, by kernel_rfl, rfl, fun _ => rfl⟩
theorem ty69 : TI.ok Tryz.prog 69 ⟨.fn, 1, 8, .nilFunc⟩ := ⟨⟨_, _, _, Tryz.underlying69⟩, by kernel_rfl, rfl, fun _ => rfl⟩
theorem ty70 : TI.ok Tryz.prog 70 ⟨.fn, 1, 8, .nilFunc⟩ := ⟨⟨_, _, _, Tryz.underlying70⟩, by kernel_rfl, rfl, fun _ => rfl⟩
theorem ty71 : TI.ok Tryz.prog 71 ⟨.fn, 1, 8, .nilFunc⟩ := ⟨⟨_, _, _, Tryz.underlying71⟩, by kernel_rfl, rfl, fun _ => rfl⟩
theorem ty72 : TI.ok Tryz.prog 72 ⟨.fn, 1, 8, .nilFunc⟩ := ⟨⟨_, _, _, Tryz.underlying72⟩, by kernel_rfl, rfl, fun _ => rfl⟩
theorem ty73 : TI.ok Tryz.prog 73 ⟨.fn, 1, 8, .nilFunc⟩ := ⟨⟨_, _, _, Tryz.underlying73⟩, by kernel_rfl, rfl, fun _ => rfl⟩
theorem ty74 : TI.ok Tryz.prog 74 ⟨.fn, 1, 8, .nilFunc⟩ := ⟨⟨_, _, _, Tryz.underlying74⟩, by kernel_rfl, rfl, fun _ => rfl⟩
theorem ty75 : TI.ok Tryz.prog 75 ⟨.fn, 1, 8, .nilFunc⟩ := ⟨⟨_, _, _, Tryz.underlying75⟩, by kernel_rfl, rfl, fun _ => rfl⟩
theorem ty76 : TI.ok Tryz.prog 76 ⟨.fn, 1, 8, .nilFunc⟩ := ⟨⟨_, _, _, Tryz.underlying76⟩, by kernel_rfl, rfl, fun _ => rfl⟩
theorem ty77 : TI.ok Tryz.prog 77 ⟨.fn, 1, 8, .nilFunc⟩ := ⟨⟨_, _, _, Tryz.underlying77⟩, by kernel_rfl, rfl, fun _ => rfl⟩
theorem ty78 : TI.ok Tryz.prog 78 ⟨.fn, 1, 8, .nilFunc⟩ := ⟨⟨_, _, _, Tryz.underlying78⟩, by kernel_rfl, rfl, fun _ => rfl⟩
theorem ty79 : TI.ok Tryz.prog 79 ⟨.ptr 82, 1, 8, .pointer none⟩ := ⟨Tryz.underlying79, by kernel_rfl, rfl, fun _ => rfl⟩
theorem ty80 : TI.ok Tryz.prog 80 ⟨.int .u64, 1, 8, .int .u64 0⟩ := ⟨Tryz.underlying80, by kernel_rfl, rfl, fun _ => rfl⟩
theorem ty81 : TI.ok Tryz.prog 81 ⟨.struct [(0, 53), (1, 3), (2, 80)], 3, 40, .agg #[.slice none 0 0, .int .i64 0, .int .u64 0]⟩ := ⟨⟨_, Tryz.underlying81, by kernel_rfl⟩, by kernel_rfl, rfl, fun h => nomatch h⟩
theorem ty82 : TI.ok Tryz.prog 82 ⟨.struct [(0, 53), (1, 3), (2, 80)], 3, 40, .agg #[.slice none 0 0, .int .i64 0, .int .u64 0]⟩ := ⟨⟨_, Tryz.underlying82, by kernel_rfl⟩, by kernel_rfl, rfl, fun h => nomatch h⟩
theorem ty83 : TI.ok Tryz.prog 83 ⟨.fn, 1, 8, .nilFunc⟩ := ⟨⟨_, _, _, Tryz.underlying83⟩, by kernel_rfl, rfl, fun _ => rfl⟩
theorem ty84 : TI.ok Tryz.prog 84 ⟨.fn, 1, 8, .nilFunc⟩ := ⟨⟨_, _, _, Tryz.underlying84⟩, by kernel_rfl, rfl, fun _ => rfl⟩
theorem ty85 : TI.ok Tryz.prog 85 ⟨.fn, 1, 8, .nilFunc⟩ := ⟨⟨_, _, _, Tryz.underlying85⟩, by kernel_rfl, rfl, fun _ => rfl⟩
theorem ty86 : TI.ok Tryz.prog 86 ⟨.fn, 1, 8, .nilFunc⟩ := ⟨⟨_, _, _, Tryz.underlying86⟩, by kernel_rfl, rfl, fun _ => rfl⟩
theorem ty87 : TI.ok Tryz.prog 87 ⟨.slice 114, 1, 24, .slice none 0 0⟩ := ⟨Tryz.underlying87, by kernel_rfl, rfl, fun _ => rfl⟩
theorem ty88 : TI.ok Tryz.prog 88 ⟨.struct [(0, 87)], 1, 24, .agg #[.slice none 0 0]⟩ := ⟨⟨_, Tryz.underlying88, by kernel_rfl⟩, by kernel_rfl, rfl, fun h => nomatch h⟩
theorem ty89 : TI.ok Tryz.prog 89 ⟨.struct [(0, 87)], 1, 24, .agg #[.slice none 0 0]⟩ := ⟨⟨_, Tryz.underlying89, by kernel_rfl⟩, by kernel_rfl, rfl, fun h => nomatch h⟩
theorem ty90 : TI.ok Tryz.prog 90 ⟨.fn, 1, 8, .nilFunc⟩ := ⟨⟨_, _, _, Tryz.underlying90⟩, by kernel_rfl, rfl, fun _ => rfl⟩
theorem ty91 : TI.ok Tryz.prog 91 ⟨.fn, 1, 8, .nilFunc⟩ := ⟨⟨_, _, _, Tryz.underlying91⟩, by kernel_rfl, rfl, fun _ => rfl⟩
theorem ty92 : TI.ok Tryz.prog 92 ⟨.struct [(0, 4), (1, 33)], 3, 48, .agg #[.bool false, .string ⟨#[]⟩, .slice none 0 0]⟩ := ⟨⟨_, Tryz.underlying92, by kernel_rfl⟩, by kernel_rfl, rfl, fun h => nomatch h⟩
theorem ty93 : TI.ok Tryz.prog 93 ⟨.struct [(0, 4), (1, 33)], 3, 48, .agg #[.bool false, .string ⟨#[]⟩, .slice none 0 0]⟩ := ⟨⟨_, Tryz.underlying93, by kernel_rfl⟩, by kernel_rfl, rfl, fun h => nomatch h⟩
theorem ty94 : TI.ok Tryz.prog 94 ⟨.slice 93, 1, 24, .slice none 0 0⟩ := ⟨Tryz.underlying94, by kernel_rfl, rfl, fun _ => rfl⟩
theorem ty95 : TI.ok Tryz.prog 95 ⟨.struct [(0, 94)], 1, 24, .agg #[.slice none 0 0]⟩ := ⟨⟨_, Tryz.underlying95, by kernel_rfl⟩, by kernel_rfl, rfl, fun h => nomatch h⟩
theorem ty96 : TI.ok Tryz.prog 96 ⟨.struct [(0, 94)], 1, 24, .agg #[.slice none 0 0]⟩ := ⟨⟨_, Tryz.underlying96, by kernel_rfl⟩, by kernel_rfl, rfl, fun h => nomatch h⟩
theorem ty97 : TI.ok Tryz.prog 97 ⟨.fn, 1, 8, .nilFunc⟩ := ⟨⟨_, _, _, Tryz.underlying97⟩, by kernel_rfl, rfl, fun _ => rfl⟩
theorem ty98 : TI.ok Tryz.prog 98 ⟨.fn, 1, 8, .nilFunc⟩ := ⟨⟨_, _, _, Tryz.underlying98⟩, by kernel_rfl, rfl, fun _ => rfl⟩
theorem ty99 : TI.ok Tryz.prog 99 ⟨.fn, 1, 8, .nilFunc⟩ := ⟨⟨_, _, _, Tryz.underlying99⟩, by kernel_rfl, rfl, fun _ => rfl⟩
theorem ty100 : TI.ok Tryz.prog 100 ⟨.fn, 1, 8, .nilFunc⟩ := ⟨⟨_, _, _, Tryz.underlying100⟩, by kernel_rfl, rfl, fun _ => rfl⟩
theorem ty101 : TI.ok Tryz.prog 101 ⟨.fn, 1, 8, .nilFunc⟩ := ⟨⟨_, _, _, Tryz.underlying101⟩, by kernel_rfl, rfl, fun _ => rfl⟩
theorem ty102 : TI.ok Tryz.prog 102 ⟨.fn, 1, 8, .nilFunc⟩ := ⟨⟨_, _, _, Tryz.underlying102⟩, by kernel_rfl, rfl, fun _ => rfl⟩
theorem ty103 : TI.ok Tryz.prog 103 ⟨.fn, 1, 8, .nilFunc⟩ := ⟨⟨_, _, _, Tryz.underlying103⟩, by kernel_rfl, rfl, fun _ => rfl⟩
theorem ty104 : TI.ok Tryz.prog 104 ⟨.fn, 1, 8, .nilFunc⟩ := ⟨⟨_, _, _, Tryz.underlying104⟩, by kernel_rfl, rfl, fun _ => rfl⟩
theorem ty105 : TI.ok Tryz.prog 105 ⟨.fn, 1, 8, .nilFunc⟩ := ⟨⟨_, _, _, Tryz.underlying105⟩, by kernel_rfl, rfl, fun _ => rfl⟩
theorem ty106 : TI.ok Tryz.prog 106 ⟨.fn, 1, 8, .nilFunc⟩ := ⟨⟨_, _, _, Tryz.underlying106⟩, by kernel_rfl, rfl, fun _ => rfl⟩
theorem ty108 : TI.ok Tryz.prog 108 ⟨.fn, 1, 8, .nilFunc⟩ := ⟨⟨_, _, _, Tryz.underlying108⟩, by kernel_rfl, rfl, fun _ => rfl⟩
theorem ty109 : TI.ok Tryz.prog 109 ⟨.fn, 1, 8, .nilFunc⟩ := ⟨⟨_, _, _, Tryz.underlying109⟩, by kernel_rfl, rfl, fun _ => rfl⟩
theorem ty110 : TI.ok Tryz.prog 110 ⟨.fn, 1, 8, .nilFunc⟩ := ⟨⟨_, _, _, Tryz.underlying110⟩, by kernel_rfl, rfl, fun _ => rfl⟩
theorem ty111 : TI.ok Tryz.prog 111 ⟨.fn, 1, 8, .nilFunc⟩ := ⟨⟨_, _, _, Tryz.underlying111⟩, by kernel_rfl, rfl, fun _ => rfl⟩
theorem ty112 : TI.ok Tryz.prog 112 ⟨.fn, 1, 8, .nilFunc⟩ := ⟨⟨_, _, _, Tryz.underlying112⟩, by kernel_rfl, rfl, fun _ => rfl⟩
theorem ty113 : TI.ok Tryz.prog 113 ⟨.struct [(0, 9), (1, 33)], 3, 56, .agg #[.string ⟨#[]⟩, .string ⟨#[]⟩, .slice none 0 0]⟩ := ⟨⟨_, Tryz.underlying113, by kernel_rfl⟩, by kernel_rfl, rfl, fun h => nomatch h⟩
theorem ty114 : TI.ok Tryz.prog 114 ⟨.struct [(0, 9), (1, 33)], 3, 56, .agg #[.string ⟨#[]⟩, .string ⟨#[]⟩, .slice none 0 0]⟩ := ⟨⟨_, Tryz.underlying114, by kernel_rfl⟩, by kernel_rfl, rfl, fun h => nomatch h⟩
theorem ty115 : TI.ok Tryz.prog 115 ⟨.fn, 1, 8, .nilFunc⟩ := ⟨⟨_, _, _, Tryz.underlying115⟩, by kernel_rfl, rfl, fun _ => rfl⟩
theorem ty116 : TI.ok Tryz.prog 116 ⟨.fn, 1, 8, .nilFunc⟩ := ⟨⟨_, _, _, Tryz.underlying116⟩, by kernel_rfl, rfl, fun _ => rfl⟩
theorem ty117 : TI.ok Tryz.prog 117 ⟨.fn, 1, 8, .nilFunc⟩ := ⟨⟨_, _, _, Tryz.underlying117⟩, by kernel_rfl, rfl, fun _ => rfl⟩
theorem ty118 : TI.ok Tryz.prog 118 ⟨.fn, 1, 8, .nilFunc⟩ := ⟨⟨_, _, _, Tryz.underlying118⟩, by kernel_rfl, rfl, fun _ => rfl⟩
theorem ty119 : TI.ok Tryz.prog 119 ⟨.fn, 1, 8, .nilFunc⟩ := ⟨⟨_, _, _, Tryz.underlying119⟩, by kernel_rfl, rfl, fun _ => rfl⟩
theorem ty120 : TI.ok Tryz.prog 120 ⟨.fn, 1, 8, .nilFunc⟩ := ⟨⟨_, _, _, Tryz.underlying120⟩, by kernel_rfl, rfl, fun _ => rfl⟩
theorem ty121 : TI.ok Tryz.prog 121 ⟨.fn, 1, 8, .nilFunc⟩ := ⟨⟨_, _, _, Tryz.underlying121⟩, by kernel_rfl, rfl, fun _ => rfl⟩
theorem ty122 : TI.ok Tryz.prog 122 ⟨.fn, 1, 8, .nilFunc⟩ := ⟨⟨_, _, _, Tryz.underlying122⟩, by kernel_rfl, rfl, fun _ => rfl⟩
theorem ty123 : TI.ok Tryz.prog 123 ⟨.fn, 1, 8, .nilFunc⟩ := ⟨⟨_, _, _, Tryz.underlying123⟩, by kernel_rfl, rfl, fun _ => rfl⟩
theorem ty124 : TI.ok Tryz.prog 124 ⟨.fn, 1, 8, .nilFunc⟩ := ⟨⟨_, _, _, Tryz.underlying124⟩, by kernel_rfl, rfl, fun _ => rfl⟩
theorem ty126 : TI.ok Tryz.prog 126 ⟨.fn, 1, 8, .nilFunc⟩ := ⟨⟨_, _, _, Tryz.underlying126⟩, by kernel_rfl, rfl, fun _ => rfl⟩
theorem ty127 : TI.ok Tryz.prog 127 ⟨.slice 23, 1, 24, .slice none 0 0⟩ := ⟨Tryz.underlying127, by kernel_rfl, rfl, fun _ => rfl⟩
theorem ty128 : TI.ok Tryz.prog 128 ⟨.fn, 1, 8, .nilFunc⟩ := ⟨⟨_, _, _, Tryz.underlying128⟩, by kernel_rfl, rfl, fun _ => rfl⟩
theorem ty129 : TI.ok Tryz.prog 129 ⟨.fn, 1, 8, .nilFunc⟩ := ⟨⟨_, _, _, Tryz.underlying129⟩, by kernel_rfl, rfl, fun _ => rfl⟩
theorem ty130 : TI.ok Tryz.prog 130 ⟨.slice 146, 1, 24, .slice none 0 0⟩ := ⟨Tryz.underlying130, by kernel_rfl, rfl, fun _ => rfl⟩
theorem ty132 : TI.ok Tryz.prog 132 ⟨.fn, 1, 8, .nilFunc⟩ := ⟨⟨_, _, _, Tryz.underlying132⟩, by kernel_rfl, rfl, fun _ => rfl⟩
theorem ty133 : TI.ok Tryz.prog 133 ⟨.fn, 1, 8, .nilFunc⟩ := ⟨⟨_, _, _, Tryz.underlying133⟩, by kernel_rfl, rfl, fun _ => rfl⟩
theorem ty134 : TI.ok Tryz.prog 134 ⟨.fn, 1, 8, .nilFunc⟩ := ⟨⟨_, _, _, Tryz.underlying134⟩, by kernel_rfl, rfl, fun _ => rfl⟩
theorem ty135 : TI.ok Tryz.prog 135 ⟨.fn, 1, 8, .nilFunc⟩ := ⟨⟨_, _, _, Tryz.underlying135⟩, by kernel_rfl, rfl, fun _ => rfl⟩
theorem ty136 : TI.ok Tryz.prog 136 ⟨.map 9 33, 1, 8, .map none⟩ := ⟨Tryz.underlying136, by kernel_rfl, rfl, fun _ => rfl⟩
theorem ty137 : TI.ok Tryz.prog 137 ⟨.map 9 33, 1, 8, .map none⟩ := ⟨Tryz.underlying137, by kernel_rfl, rfl, fun _ => rfl⟩
theorem ty138 : TI.ok Tryz.prog 138 ⟨.fn, 1, 8, .nilFunc⟩ := ⟨⟨_, _, _, Tryz.underlying138⟩, by kernel_rfl, rfl, fun _ => rfl⟩
theorem ty139 : TI.ok Tryz.prog 139 ⟨.fn, 1, 8, .nilFunc⟩ := ⟨⟨_, _, _, Tryz.underlying139⟩, by kernel_rfl, rfl, fun _ => rfl⟩
theorem ty140 : TI.ok Tryz.prog 140 ⟨.fn, 1, 8, .nilFunc⟩ := ⟨⟨_, _, _, Tryz.underlying140⟩, by kernel_rfl, rfl, fun _ => rfl⟩
theorem ty141 : TI.ok Tryz.prog 141 ⟨.fn, 1, 8, .nilFunc⟩ := ⟨⟨_, _, _, Tryz.underlying141⟩, by kernel_rfl, rfl, fun _ => rfl⟩
theorem ty142 : TI.ok Tryz.prog 142 ⟨.fn, 1, 8, .nilFunc⟩ := ⟨⟨_, _, _, Tryz.underlying142⟩, by kernel_rfl, rfl, fun _ => rfl⟩
theorem ty144 : TI.ok Tryz.prog 144 ⟨.fn, 1, 8, .nilFunc⟩ := ⟨⟨_, _, _, Tryz.underlying144⟩, by kernel_rfl, rfl, fun _ => rfl⟩
theorem ty145 : TI.ok Tryz.prog 145 ⟨.struct [(0, 9), (1, 33)], 3, 56, .agg #[.string ⟨#[]⟩, .string ⟨#[]⟩, .slice none 0 0]⟩ := ⟨⟨_, Tryz.underlying145, by kernel_rfl⟩, by kernel_rfl, rfl, fun h => nomatch h⟩
theorem ty146 : TI.ok Tryz.prog 146 ⟨.struct [(0, 9), (1, 33)], 3, 56, .agg #[.string ⟨#[]⟩, .string ⟨#[]⟩, .slice none 0 0]⟩ := ⟨⟨_, Tryz.underlying146, by kernel_rfl⟩, by kernel_rfl, rfl, fun h => nomatch h⟩
theorem ty147 : TI.ok Tryz.prog 147 ⟨.fn, 1, 8, .nilFunc⟩ := ⟨⟨_, _, _, Tryz.underlying147⟩, by kernel_rfl, rfl, fun _ => rfl⟩
theorem ty148 : TI.ok Tryz.prog 148 ⟨.int .u64, 1, 8, .int .u64 0⟩ := ⟨Tryz.underlying148, by kernel_rfl, rfl, fun _ => rfl⟩
theorem ty149 : TI.ok Tryz.prog 149 ⟨.fn, 1, 8, .nilFunc⟩ := ⟨⟨_, _, _, Tryz.underlying149⟩, by kernel_rfl, rfl, fun _ => rfl⟩
theorem ty150 : TI.ok Tryz.prog 150 ⟨.fn, 1, 8, .nilFunc⟩ := ⟨⟨_, _, _, Tryz.underlying150⟩, by kernel_rfl, rfl, fun _ => rfl⟩
theorem ty151 : TI.ok Tryz.prog 151 ⟨.fn, 1, 8, .nilFunc⟩ := ⟨⟨_, _, _, Tryz.underlying151⟩, by kernel_rfl, rfl, fun _ => rfl⟩
theorem ty152 : TI.ok Tryz.prog 152 ⟨.fn, 1, 8, .nilFunc⟩ := ⟨⟨_, _, _, Tryz.underlying152⟩, by kernel_rfl, rfl, fun _ => rfl⟩
theorem ty154 : TI.ok Tryz.prog 154 ⟨.fn, 1, 8, .nilFunc⟩ := ⟨⟨_, _, _, Tryz.underlying154⟩, by kernel_rfl, rfl, fun _ => rfl⟩
theorem ty155 : TI.ok Tryz.prog 155 ⟨.fn, 1, 8, .nilFunc⟩ := ⟨⟨_, _, _, Tryz.underlying155⟩, by kernel_rfl, rfl, fun _ => rfl⟩
theorem ty156 : TI.ok Tryz.prog 156 ⟨.int .i64, 1, 8, .int .i64 0⟩ := ⟨Tryz.underlying156, by kernel_rfl, rfl, fun _ => rfl⟩
theorem ty158 : TI.ok Tryz.prog 158 ⟨.fn, 1, 8, .nilFunc⟩ := ⟨⟨_, _, _, Tryz.underlying158⟩, by kernel_rfl, rfl, fun _ => rfl⟩
theorem ty159 : TI.ok Tryz.prog 159 ⟨.fn, 1, 8, .nilFunc⟩ := ⟨⟨_, _, _, Tryz.underlying159⟩, by kernel_rfl, rfl, fun _ => rfl⟩
theorem ty160 : TI.ok Tryz.prog 160 ⟨.fn, 1, 8, .nilFunc⟩ := ⟨⟨_, _, _, Tryz.underlying160⟩, by kernel_rfl, rfl, fun _ => rfl⟩
theorem ty161 : TI.ok Tryz.prog 161 ⟨.fn, 1, 8, .nilFunc⟩ := ⟨⟨_, _, _, Tryz.underlying161⟩, by kernel_rfl, rfl, fun _ => rfl⟩
theorem ty162 : TI.ok Tryz.prog 162 ⟨.fn, 1, 8, .nilFunc⟩ := ⟨⟨_, _, _, Tryz.underlying162⟩, by kernel_rfl, rfl, fun _ => rfl⟩
theorem ty163 : TI.ok Tryz.prog 163 ⟨.fn, 1, 8, .nilFunc⟩ := ⟨⟨_, _, _, Tryz.underlying163⟩, by kernel_rfl, rfl, fun _ => rfl⟩
theorem ty164 : TI.ok Tryz.prog 164 ⟨.int .u32, 1, 4, .int .u32 0⟩ := ⟨Tryz.underlying164, by kernel_rfl, rfl, fun _ => rfl⟩
theorem ty165 : TI.ok Tryz.prog 165 ⟨.fn, 1, 8, .nilFunc⟩ := ⟨⟨_, _, _, Tryz.underlying165⟩, by kernel_rfl, rfl, fun _ => rfl⟩
theorem ty167 : TI.ok Tryz.prog 167 ⟨.fn, 1, 8, .nilFunc⟩ := ⟨⟨_, _, _, Tryz.underlying167⟩, by kernel_rfl, rfl, fun _ => rfl⟩
theorem ty169 : TI.ok Tryz.prog 169 ⟨.fn, 1, 8, .nilFunc⟩ := ⟨⟨_, _, _, Tryz.underlying169⟩, by kernel_rfl, rfl, fun _ => rfl⟩
theorem ty170 : TI.ok Tryz.prog 170 ⟨.int .u64, 1, 8, .int .u64 0⟩ := ⟨Tryz.underlying170, by kernel_rfl, rfl, fun _ => rfl⟩
theorem ty171 : TI.ok Tryz.prog 171 ⟨.fn, 1, 8, .nilFunc⟩ := ⟨⟨_, _, _, Tryz.underlying171⟩, by kernel_rfl, rfl, fun _ => rfl⟩
theorem ty172 : TI.ok Tryz.prog 172 ⟨.fn, 1, 8, .nilFunc⟩ := ⟨⟨_, _, _, Tryz.underlying172⟩, by kernel_rfl, rfl, fun _ => rfl⟩
theorem ty173 : TI.ok Tryz.prog 173 ⟨.fn, 1, 8, .nilFunc⟩ := ⟨⟨_, _, _, Tryz.underlying173⟩, by kernel_rfl, rfl, fun _ => rfl⟩
theorem ty174 : TI.ok Tryz.prog 174 ⟨.ptr 3, 1, 8, .pointer none⟩ := ⟨Tryz.underlying174, by kernel_rfl, rfl, fun _ => rfl⟩
theorem ty175 : TI.ok Tryz.prog 175 ⟨.fn, 1, 8, .nilFunc⟩ := ⟨⟨_, _, _, Tryz.underlying175⟩, by kernel_rfl, rfl, fun _ => rfl⟩
theorem ty176 : TI.ok Tryz.prog 176 ⟨.ptr 170, 1, 8, .pointer none⟩ := ⟨Tryz.underlying176, by kernel_rfl, rfl, fun _ => rfl⟩
theorem ty178 : TI.ok Tryz.prog 178 ⟨.fn, 1, 8, .nilFunc⟩ := ⟨⟨_, _, _, Tryz.underlying178⟩, by kernel_rfl, rfl, fun _ => rfl⟩
theorem ty179 : TI.ok Tryz.prog 179 ⟨.fn, 1, 8, .nilFunc⟩ := ⟨⟨_, _, _, Tryz.underlying179⟩, by kernel_rfl, rfl, fun _ => rfl⟩
theorem ty187 : TI.ok Tryz.prog 187 ⟨.fn, 1, 8, .nilFunc⟩ := ⟨⟨_, _, _, Tryz.underlying187⟩, by kernel_rfl, rfl, fun _ => rfl⟩
theorem ty188 : TI.ok Tryz.prog 188 ⟨.ptr 5, 1, 8, .pointer none⟩ := ⟨Tryz.underlying188, by kernel_rfl, rfl, fun _ => rfl⟩
theorem ty191 : TI.ok Tryz.prog 191 ⟨.struct [(0, 12), (1, 12), (2, 164), (3, 185), (4, 5), (5, 5), (6, 186), (7, 187), (8, 188), (9, 189), (10, 190)], 11, 48, .agg #[.int .u64 0, .int .u64 0, .int .u32 0, .int .u8 0, .int .u8 0, .int .u8 0, .int .u8 0, .nilFunc, .pointer none, .int .i32 0, .int .i32 0]⟩ := ⟨⟨_, Tryz.underlying191, by kernel_rfl⟩, by kernel_rfl, rfl, fun h => nomatch h⟩
theorem ty193 : TI.ok Tryz.prog 193 ⟨.fn, 1, 8, .nilFunc⟩ := ⟨⟨_, _, _, Tryz.underlying193⟩, by kernel_rfl, rfl, fun _ => rfl⟩
theorem ty194 : TI.ok Tryz.prog 194 ⟨.fn, 1, 8, .nilFunc⟩ := ⟨⟨_, _, _, Tryz.underlying194⟩, by kernel_rfl, rfl, fun _ => rfl⟩
def tyTab : List (Option TI) := [none, some ⟨.fn, 1, 8, .nilFunc⟩, some ⟨.int .i64, 1, 8, .int .i64 0⟩, some ⟨.int .i64, 1, 8, .int .i64 0⟩, some ⟨.bool, 1, 1, .bool false⟩, some ⟨.int .u8, 1, 1, .int .u8 0⟩, none, none, none, some ⟨.str, 1, 16, .string ⟨#[]⟩⟩, none, none, some ⟨.int .u64, 1, 8, .int .u64 0⟩, none, none, none, none, some ⟨.ptr 192, 1, 8, .pointer none⟩, none, none, none, some ⟨.int .i32, 1, 4, .int .i32 0⟩, some ⟨.slice 9, 1, 24, .slice none 0 0⟩, some ⟨.slice 3, 1, 24, .slice none 0 0⟩, some ⟨.struct [(0, 22), (1, 23), (2, 3)], 3, 56, .agg #[.slice none 0 0, .slice none 0 0, .int .i64 0]⟩, some ⟨.struct [(0, 22), (1, 23), (2, 3)], 3, 56, .agg #[.slice none 0 0, .slice none 0 0, .int .i64 0]⟩, some ⟨.slice 28, 1, 24, .slice none 0 0⟩, some ⟨.struct [(0, 9), (1, 26)], 2, 40, .agg #[.string ⟨#[]⟩, .slice none 0 0]⟩, some ⟨.struct [(0, 9), (1, 26)], 2, 40, .agg #[.string ⟨#[]⟩, .slice none 0 0]⟩, some ⟨.fn, 1, 8, .nilFunc⟩, some ⟨.fn, 1, 8, .nilFunc⟩, some ⟨.slice 33, 1, 24, .slice none 0 0⟩, some ⟨.struct [(0, 9), (1, 31)], 2, 40, .agg #[.string ⟨#[]⟩, .slice none 0 0]⟩, some ⟨.struct [(0, 9), (1, 31)], 2, 40, .agg #[.string ⟨#[]⟩, .slice none 0 0]⟩, none, some ⟨.fn, 1, 8, .nilFunc⟩, some ⟨.struct [(0, 22), (1, 23), (2, 3)], 3, 56, .agg #[.slice none 0 0, .slice none 0 0, .int .i64 0]⟩, some ⟨.fn, 1, 8, .nilFunc⟩, some ⟨.fn, 1, 8, .nilFunc⟩, some ⟨.fn, 1, 8, .nilFunc⟩, some ⟨.fn, 1, 8, .nilFunc⟩, some ⟨.fn, 1, 8, .nilFunc⟩, some ⟨.fn, 1, 8, .nilFunc⟩, some ⟨.fn, 1, 8, .nilFunc⟩, some ⟨.fn, 1, 8, .nilFunc⟩, none, some ⟨.fn, 1, 8, .nilFunc⟩, some ⟨.fn, 1, 8, .nilFunc⟩, some ⟨.fn, 1, 8, .nilFunc⟩, some ⟨.fn, 1, 8, .nilFunc⟩, none, some ⟨.fn, 1, 8, .nilFunc⟩, some ⟨.fn, 1, 8, .nilFunc⟩, some ⟨.slice 5, 1, 24, .slice none 0 0⟩, some ⟨.fn, 1, 8, .nilFunc⟩, none, some ⟨.fn, 1, 8, .nilFunc⟩, some ⟨.struct [(0, 22), (1, 23)], 2, 48, .agg #[.slice none 0 0, .slice none 0 0]⟩, some ⟨.struct [(0, 22), (1, 23)], 2, 48, .agg #[.slice none 0 0, .slice none 0 0]⟩, some ⟨.fn, 1, 8, .nilFunc⟩, some ⟨.fn, 1, 8, .nilFunc⟩, some ⟨.fn, 1, 8, .nilFunc⟩, some ⟨.fn, 1, 8, .nilFunc⟩, some ⟨.fn, 1, 8, .nilFunc⟩, some ⟨.fn, 1, 8, .nilFunc⟩, some ⟨.fn, 1, 8, .nilFunc⟩, some ⟨.fn, 1, 8, .nilFunc⟩, some ⟨.fn, 1, 8, .nilFunc⟩, some ⟨.fn, 1, 8, .nilFunc⟩, some ⟨.fn, 1, 8, .nilFunc⟩, some ⟨.fn, 1, 8, .nilFunc⟩, some ⟨.fn, 1, 8, .nilFunc⟩, some ⟨.fn, 1, 8, .nilFunc⟩, some ⟨.fn, 1, 8, .nilFunc⟩, some ⟨.fn, 1, 8, .nilFunc⟩, some ⟨.fn, 1, 8, .nilFunc⟩, some ⟨.fn, 1, 8, .nilFunc⟩, some ⟨.fn, 1, 8, .nilFunc⟩, some ⟨.fn, 1, 8, .nilFunc⟩, some ⟨.ptr 82, 1, 8, .pointer none⟩, some ⟨.int .u64, 1, 8, .int .u64 0⟩, some ⟨.struct [(0, 53), (1, 3), (2, 80)], 3, 40, .agg #[.slice none 0 0, .int .i64 0, .int .u64 0]⟩, some ⟨.struct [(0, 53), (1, 3), (2, 80)], 3, 40, .agg #[.slice none 0 0, .int .i64 0, .int .u64 0]⟩, some ⟨.fn, 1, 8, .nilFunc⟩, some ⟨.fn, 1, 8, .nilFunc⟩, some ⟨.fn, 1, 8, .nilFunc⟩, some ⟨.fn, 1, 8, .nilFunc⟩, some ⟨.slice 114, 1, 24, .slice none 0 0⟩, some ⟨.struct [(0, 87)], 1, 24, .agg #[.slice none 0 0]⟩, some ⟨.struct [(0, 87)], 1, 24, .agg #[.slice none 0 0]⟩, some ⟨.fn, 1, 8, .nilFunc⟩, some ⟨.fn, 1, 8, .nilFunc⟩, some ⟨.struct [(0, 4), (1, 33)], 3, 48, .agg #[.bool false, .string ⟨#[]⟩, .slice none 0 0]⟩, some ⟨.struct [(0, 4), (1, 33)], 3, 48, .agg #[.bool false, .string ⟨#[]⟩, .slice none 0 0]⟩, some ⟨.slice 93, 1, 24, .slice none 0 0⟩, some ⟨.struct [(0, 94)], 1, 24, .agg #[.slice none 0 0]⟩, some ⟨.struct [(0, 94)], 1, 24, .agg #[.slice none 0 0]⟩, some ⟨.fn, 1, 8, .nilFunc⟩, some ⟨.fn, 1, 8, .nilFunc⟩, some ⟨.fn, 1, 8, .nilFunc⟩, some ⟨.fn, 1, 8, .nilFunc⟩, some ⟨.fn, 1, 8, .nilFunc⟩, some ⟨.fn, 1, 8, .nilFunc⟩, some ⟨.fn, 1, 8, .nilFunc⟩, some ⟨.fn, 1, 8, .nilFunc⟩, some ⟨.fn, 1, 8, .nilFunc⟩, some ⟨.fn, 1, 8, .nilFunc⟩, none, some ⟨.fn, 1, 8, .nilFunc⟩, some ⟨.fn, 1, 8, .nilFunc⟩, some ⟨.fn, 1, 8, .nilFunc⟩, some ⟨.fn, 1, 8, .nilFunc⟩, some ⟨.fn, 1, 8, .nilFunc⟩, some ⟨.struct [(0, 9), (1, 33)], 3, 56, .agg #[.string ⟨#[]⟩, .string ⟨#[]⟩, .slice none 0 0]⟩, some ⟨.struct [(0, 9), (1, 33)], 3, 56, .agg #[.string ⟨#[]⟩, .string ⟨#[]⟩, .slice none 0 0]⟩, some ⟨.fn, 1, 8, .nilFunc⟩, some ⟨.fn, 1, 8, .nilFunc⟩, some ⟨.fn, 1, 8, .nilFunc⟩, some ⟨.fn, 1, 8, .nilFunc⟩, some ⟨.fn, 1, 8, .nilFunc⟩, some ⟨.fn, 1, 8, .nilFunc⟩, some ⟨.fn, 1, 8, .nilFunc⟩, some ⟨.fn, 1, 8, .nilFunc⟩, some ⟨.fn, 1, 8, .nilFunc⟩, some ⟨.fn, 1, 8, .nilFunc⟩, none, some ⟨.fn, 1, 8, .nilFunc⟩, some ⟨.slice 23, 1, 24, .slice none 0 0⟩, some ⟨.fn, 1, 8, .nilFunc⟩, some ⟨.fn, 1, 8, .nilFunc⟩, some ⟨.slice 146, 1, 24, .slice none 0 0⟩, none, some ⟨.fn, 1, 8, .nilFunc⟩, some ⟨.fn, 1, 8, .nilFunc⟩, some ⟨.fn, 1, 8, .nilFunc⟩, some ⟨.fn, 1, 8, .nilFunc⟩, some ⟨.map 9 33, 1, 8, .map none⟩, some ⟨.map 9 33, 1, 8, .map none⟩, some ⟨.fn, 1, 8, .nilFunc⟩, some ⟨.fn, 1, 8, .nilFunc⟩, some ⟨.fn, 1, 8, .nilFunc⟩, some ⟨.fn, 1, 8, .nilFunc⟩, some ⟨.fn, 1, 8, .nilFunc⟩, none, some ⟨.fn, 1, 8, .nilFunc⟩, some ⟨.struct [(0, 9), (1, 33)], 3, 56, .agg #[.string ⟨#[]⟩, .string ⟨#[]⟩, .slice none 0 0]⟩, some ⟨.struct [(0, 9), (1, 33)], 3, 56, .agg #[.string ⟨#[]⟩, .string ⟨#[]⟩, .slice none 0 0]⟩, some ⟨.fn, 1, 8, .nilFunc⟩, some ⟨.int .u64, 1, 8, .int .u64 0⟩, some ⟨.fn, 1, 8, .nilFunc⟩, some ⟨.fn, 1, 8, .nilFunc⟩, some ⟨.fn, 1, 8, .nilFunc⟩, some ⟨.fn, 1, 8, .nilFunc⟩, none, some ⟨.fn, 1, 8, .nilFunc⟩, some ⟨.fn, 1, 8, .nilFunc⟩, some ⟨.int .i64, 1, 8, .int .i64 0⟩, none, some ⟨.fn, 1, 8, .nilFunc⟩, some ⟨.fn, 1, 8, .nilFunc⟩, some ⟨.fn, 1, 8, .nilFunc⟩, some ⟨.fn, 1, 8, .nilFunc⟩, some ⟨.fn, 1, 8, .nilFunc⟩, some ⟨.fn, 1, 8, .nilFunc⟩, some ⟨.int .u32, 1, 4, .int .u32 0⟩, some ⟨.fn, 1, 8, .nilFunc⟩, none, some ⟨.fn, 1, 8, .nilFunc⟩, none, some ⟨.fn, 1, 8, .nilFunc⟩, some ⟨.int .u64, 1, 8, .int .u64 0⟩, some ⟨.fn, 1, 8, .nilFunc⟩, some ⟨.fn, 1, 8, .nilFunc⟩, some ⟨.fn, 1, 8, .nilFunc⟩, some ⟨.ptr 3, 1, 8, .pointer none⟩, some ⟨.fn, 1, 8, .nilFunc⟩, some ⟨.ptr 170, 1, 8, .pointer none⟩, none, some ⟨.fn, 1, 8, .nilFunc⟩, some ⟨.fn, 1, 8, .nilFunc⟩, none, none, none, none, none, none, none, some ⟨.fn, 1, 8, .nilFunc⟩, some ⟨.ptr 5, 1, 8, .pointer none⟩, none, none, some ⟨.struct [(0, 12), (1, 12), (2, 164), (3, 185), (4, 5), (5, 5), (6, 186), (7, 187), (8, 188), (9, 189), (10, 190)], 11, 48, .agg #[.int .u64 0, .int .u64 0, .int .u32 0, .int .u8 0, .int .u8 0, .int .u8 0, .int .u8 0, .nilFunc, .pointer none, .int .i32 0, .int .i32 0]⟩, none, some ⟨.fn, 1, 8, .nilFunc⟩, some ⟨.fn, 1, 8, .nilFunc⟩]
theorem tyok : TyOk Tryz.prog (tyD tyTab) := AllTy.ok ⟨ty1, ty2, ty3, ty4, ty5, ty9, ty12, ty17, ty21, ty22, ty23, ty24, ty25, ty26, ty27, ty28, ty29, ty30, ty31, ty32, ty33, ty35, ty36, ty37, ty38, ty39, ty40, ty41, ty42, ty43, ty44, ty46, ty47, ty48, ty49, ty51, ty52, ty53, ty54, ty56, ty57, ty58, ty59, ty60, ty61, ty62, ty63, ty64, ty65, ty66, ty67, ty68, ty69, ty70, ty71, ty72, ty73, ty74, ty75, ty76, ty77, ty78, ty79, ty80, ty81, ty82, ty83, ty84, ty85, ty86, ty87, ty88, ty89, ty90, ty91, ty92, ty93, ty94, ty95, ty96, ty97, ty98, ty99, ty100, ty101, ty102, ty103, ty104, ty105, ty106, ty108, ty109, ty110, ty111, ty112, ty113, ty114, ty115, ty116, ty117, ty118, ty119, ty120, ty121, ty122, ty123, ty124, ty126, ty127, ty128, ty129, ty130, ty132, ty133, ty134, ty135, ty136, ty137, ty138, ty139, ty140, ty141, ty142, ty144, ty145, ty146, ty147, ty148, ty149, ty150, ty151, ty152, ty154, ty155, ty156, ty158, ty159, ty160, ty161, ty162, ty163, ty164, ty165, ty167, ty169, ty170, ty171, ty172, ty173, ty174, ty175, ty176, ty178, ty179, ty187, ty188, ty191, ty193, ty194, trivial⟩
end Go.Proofs.YtnbjmmldjggkfaaGreat
