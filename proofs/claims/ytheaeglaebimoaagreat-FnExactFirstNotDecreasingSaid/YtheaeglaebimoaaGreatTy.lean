/- WRITTEN BY A PROGRAM (gen_ty.py): the types that the walks look at. -/
import Derived.Test.YtheaeglaebimoaaGreatE15
import Derived.Test.YtheaeglaebimoaaGreatChecked
import Derived.KernelRfl
namespace Go.Proofs.YtheaeglaebimoaaGreat
open Go Go.Proofs.YtheaeglaebimoaaGreat.Abs

theorem ty1 : TI.ok Tryz.prog 1 ⟨.fn, 1, 8, .nilFunc⟩ := ⟨⟨_, _, _, Tryz.underlying1⟩, by kernel_rfl, rfl, fun _ => rfl⟩
theorem ty2 : TI.ok Tryz.prog 2 ⟨.int .i64, 1, 8, .int .i64 0⟩ := ⟨Tryz.underlying2, by kernel_rfl, rfl, fun _ => rfl⟩
theorem ty3 : TI.ok Tryz.prog 3 ⟨.int .i64, 1, 8, .int .i64 0⟩ := ⟨Tryz.underlying3, by kernel_rfl, rfl, fun _ => rfl⟩
theorem ty4 : TI.ok Tryz.prog 4 ⟨.bool, 1, 1, .bool false⟩ := ⟨Tryz.underlying4, by kernel_rfl, rfl, fun _ => rfl⟩
theorem ty5 : TI.ok Tryz.prog 5 ⟨.int .u8, 1, 1, .int .u8 0⟩ := ⟨Tryz.underlying5, by kernel_rfl, rfl, fun _ => rfl⟩
theorem ty9 : TI.ok Tryz.prog 9 ⟨.str, 1, 16, .string ⟨#[]⟩⟩ := ⟨Tryz.underlying9, by kernel_rfl, rfl, fun _ => rfl⟩
theorem ty12 : TI.ok Tryz.prog 12 ⟨.int .u64, 1, 8, .int .u64 0⟩ := ⟨Tryz.underlying12, by kernel_rfl, rfl, fun _ => rfl⟩
theorem ty17 : TI.ok Tryz.prog 17 ⟨.ptr 148, 1, 8, .pointer none⟩ := ⟨Tryz.underlying17, by kernel_rfl, rfl, fun _ => rfl⟩
theorem ty21 : TI.ok Tryz.prog 21 ⟨.int .i32, 1, 4, .int .i32 0⟩ := ⟨Tryz.underlying21, by kernel_rfl, rfl, fun _ => rfl⟩
theorem ty22 : TI.ok Tryz.prog 22 ⟨.slice 9, 1, 24, .slice none 0 0⟩ := ⟨Tryz.underlying22, by kernel_rfl, rfl, fun _ => rfl⟩
theorem ty23 : TI.ok Tryz.prog 23 ⟨.slice 3, 1, 24, .slice none 0 0⟩ := ⟨Tryz.underlying23, by kernel_rfl, rfl, fun _ => rfl⟩
theorem ty24 : TI.ok Tryz.prog 24 ⟨.struct [(0, 22), (1, 23), (2, 3)], 3, 56, .agg #[.slice none 0 0, .slice none 0 0, .int .i64 0]⟩ := ⟨⟨_, Tryz.underlying24, by kernel_rfl⟩, by kernel_rfl, rfl, fun h => nomatch h⟩
theorem ty25 : TI.ok Tryz.prog 25 ⟨.struct [(0, 22), (1, 23), (2, 3)], 3, 56, .agg #[.slice none 0 0, .slice none 0 0, .int .i64 0]⟩ := ⟨⟨_, Tryz.underlying25, by kernel_rfl⟩, by kernel_rfl, rfl, fun h => nomatch h⟩
theorem ty26 : TI.ok Tryz.prog 26 ⟨.slice 53, 1, 24, .slice none 0 0⟩ := ⟨Tryz.underlying26, by kernel_rfl, rfl, fun _ => rfl⟩
theorem ty27 : TI.ok Tryz.prog 27 ⟨.fn, 1, 8, .nilFunc⟩ := ⟨⟨_, _, _, Tryz.underlying27⟩, by kernel_rfl, rfl, fun _ => rfl⟩
theorem ty28 : TI.ok Tryz.prog 28 ⟨.fn, 1, 8, .nilFunc⟩ := ⟨⟨_, _, _, Tryz.underlying28⟩, by kernel_rfl, rfl, fun _ => rfl⟩
theorem ty30 : TI.ok Tryz.prog 30 ⟨.fn, 1, 8, .nilFunc⟩ := ⟨⟨_, _, _, Tryz.underlying30⟩, by kernel_rfl, rfl, fun _ => rfl⟩
theorem ty31 : TI.ok Tryz.prog 31 ⟨.struct [(0, 22), (1, 23), (2, 3)], 3, 56, .agg #[.slice none 0 0, .slice none 0 0, .int .i64 0]⟩ := ⟨⟨_, Tryz.underlying31, by kernel_rfl⟩, by kernel_rfl, rfl, fun h => nomatch h⟩
theorem ty32 : TI.ok Tryz.prog 32 ⟨.fn, 1, 8, .nilFunc⟩ := ⟨⟨_, _, _, Tryz.underlying32⟩, by kernel_rfl, rfl, fun _ => rfl⟩
theorem ty33 : TI.ok Tryz.prog 33 ⟨.slice 41, 1, 24, .slice none 0 0⟩ := ⟨Tryz.underlying33, by kernel_rfl, rfl, fun _ => rfl⟩
theorem ty34 : TI.ok Tryz.prog 34 ⟨.fn, 1, 8, .nilFunc⟩ := ⟨⟨_, _, _, Tryz.underlying34⟩, by kernel_rfl, rfl, fun _ => rfl⟩
theorem ty35 : TI.ok Tryz.prog 35 ⟨.fn, 1, 8, .nilFunc⟩ := ⟨⟨_, _, _, Tryz.underlying35⟩, by kernel_rfl, rfl, fun _ => rfl⟩
theorem ty36 : TI.ok Tryz.prog 36 ⟨.fn, 1, 8, .nilFunc⟩ := ⟨⟨_, _, _, Tryz.underlying36⟩, by kernel_rfl, rfl, fun _ => rfl⟩
theorem ty37 : TI.ok Tryz.prog 37 ⟨.fn, 1, 8, .nilFunc⟩ := ⟨⟨_, _, _, Tryz.underlying37⟩, by kernel_rfl, rfl, fun _ => rfl⟩
theorem ty38 : TI.ok Tryz.prog 38 ⟨.slice 5, 1, 24, .slice none 0 0⟩ := ⟨Tryz.underlying38, by kernel_rfl, rfl, fun _ => rfl⟩
theorem ty39 : TI.ok Tryz.prog 39 ⟨.fn, 1, 8, .nilFunc⟩ := ⟨⟨_, _, _, Tryz.underlying39⟩, by kernel_rfl, rfl, fun _ => rfl⟩
theorem ty40 : TI.ok Tryz.prog 40 ⟨.struct [(0, 9), (1, 33)], 2, 40, .agg #[.string ⟨#[]⟩, .slice none 0 0]⟩ := ⟨⟨_, Tryz.underlying40, by kernel_rfl⟩, by kernel_rfl, rfl, fun h => nomatch h⟩
theorem ty41 : TI.ok Tryz.prog 41 ⟨.struct [(0, 9), (1, 33)], 2, 40, .agg #[.string ⟨#[]⟩, .slice none 0 0]⟩ := ⟨⟨_, Tryz.underlying41, by kernel_rfl⟩, by kernel_rfl, rfl, fun h => nomatch h⟩
theorem ty43 : TI.ok Tryz.prog 43 ⟨.fn, 1, 8, .nilFunc⟩ := ⟨⟨_, _, _, Tryz.underlying43⟩, by kernel_rfl, rfl, fun _ => rfl⟩
theorem ty44 : TI.ok Tryz.prog 44 ⟨.fn, 1, 8, .nilFunc⟩ := ⟨⟨_, _, _, Tryz.underlying44⟩, by kernel_rfl, rfl, fun _ => rfl⟩
theorem ty45 : TI.ok Tryz.prog 45 ⟨.fn, 1, 8, .nilFunc⟩ := ⟨⟨_, _, _, Tryz.underlying45⟩, by kernel_rfl, rfl, fun _ => rfl⟩
theorem ty46 : TI.ok Tryz.prog 46 ⟨.fn, 1, 8, .nilFunc⟩ := ⟨⟨_, _, _, Tryz.underlying46⟩, by kernel_rfl, rfl, fun _ => rfl⟩
theorem ty48 : TI.ok Tryz.prog 48 ⟨.fn, 1, 8, .nilFunc⟩ := ⟨⟨_, _, _, Tryz.underlying48⟩, by kernel_rfl, rfl, fun _ => rfl⟩
theorem ty50 : TI.ok Tryz.prog 50 ⟨.fn, 1, 8, .nilFunc⟩ := ⟨⟨_, _, _, Tryz.underlying50⟩, by kernel_rfl, rfl, fun _ => rfl⟩
theorem ty51 : TI.ok Tryz.prog 51 ⟨.fn, 1, 8, .nilFunc⟩ := ⟨⟨_, _, _, Tryz.underlying51⟩, by kernel_rfl, rfl, fun _ => rfl⟩
theorem ty52 : TI.ok Tryz.prog 52 ⟨.struct [(0, 9), (1, 26)], 2, 40, .agg #[.string ⟨#[]⟩, .slice none 0 0]⟩ := ⟨⟨_, Tryz.underlying52, by kernel_rfl⟩, by kernel_rfl, rfl, fun h => nomatch h⟩
theorem ty53 : TI.ok Tryz.prog 53 ⟨.struct [(0, 9), (1, 26)], 2, 40, .agg #[.string ⟨#[]⟩, .slice none 0 0]⟩ := ⟨⟨_, Tryz.underlying53, by kernel_rfl⟩, by kernel_rfl, rfl, fun h => nomatch h⟩
theorem ty54 : TI.ok Tryz.prog 54 ⟨.fn, 1, 8, .nilFunc⟩ := ⟨⟨_, _, _, Tryz.underlying54⟩, by kernel_rfl, rfl, fun _ => rfl⟩
theorem ty55 : TI.ok Tryz.prog 55 ⟨.fn, 1, 8, .nilFunc⟩ := ⟨⟨_, _, _, Tryz.underlying55⟩, by kernel_rfl, rfl, fun _ => rfl⟩
theorem ty56 : TI.ok Tryz.prog 56 ⟨.fn, 1, 8, .nilFunc⟩ := ⟨⟨_, _, _, Tryz.underlying56⟩, by kernel_rfl, rfl, fun _ => rfl⟩
theorem ty57 : TI.ok Tryz.prog 57 ⟨.fn, 1, 8, .nilFunc⟩ := ⟨⟨_, _, _, Tryz.underlying57⟩, by kernel_rfl, rfl, fun _ => rfl⟩
theorem ty58 : TI.ok Tryz.prog 58 ⟨.fn, 1, 8, .nilFunc⟩ := ⟨⟨_, _, _, Tryz.underlying58⟩, by kernel_rfl, rfl, fun _ => rfl⟩
theorem ty59 : TI.ok Tryz.prog 59 ⟨.fn, 1, 8, .nilFunc⟩ := ⟨⟨_, _, _, Tryz.underlying59⟩, by kernel_rfl, rfl, fun _ => rfl⟩
theorem ty60 : TI.ok Tryz.prog 60 ⟨.fn, 1, 8, .nilFunc⟩ := ⟨⟨_, _, _, Tryz.underlying60⟩, by kernel_rfl, rfl, fun _ => rfl⟩
theorem ty61 : TI.ok Tryz.prog 61 ⟨.fn, 1, 8, .nilFunc⟩ := ⟨⟨_, _, _, Tryz.underlying61⟩, by kernel_rfl, rfl, fun _ => rfl⟩
theorem ty62 : TI.ok Tryz.prog 62 ⟨.fn, 1, 8, .nilFunc⟩ := ⟨⟨_, _, _, Tryz.underlying62⟩, by kernel_rfl, rfl, fun _ => rfl⟩
theorem ty63 : TI.ok Tryz.prog 63 ⟨.fn, 1, 8, .nilFunc⟩ := ⟨⟨_, _, _, Tryz.underlying63⟩, by kernel_rfl, rfl, fun _ => rfl⟩
theorem ty64 : TI.ok Tryz.prog 64 ⟨.fn, 1, 8, .nilFunc⟩ := ⟨⟨_, _, _, Tryz.underlying64⟩, by kernel_rfl, rfl, fun _ => rfl⟩
theorem ty65 : TI.ok Tryz.prog 65 ⟨.fn, 1, 8, .nilFunc⟩ := ⟨⟨_, _, _, Tryz.underlying65⟩, by kernel_rfl, rfl, fun _ => rfl⟩
theorem ty66 : TI.ok Tryz.prog 66 ⟨.fn, 1, 8, .nilFunc⟩ := ⟨⟨_, _, _, Tryz.underlying66⟩, by kernel_rfl, rfl, fun _ => rfl⟩
theorem ty67 : TI.ok Tryz.prog 67 ⟨.fn, 1, 8, .nilFunc⟩ := ⟨⟨_, _, _, Tryz.underlying67⟩, by kernel_rfl, rfl, fun _ => rfl⟩
theorem ty68 : TI.ok Tryz.prog 68 ⟨.ptr 71, 1, 8, .pointer none⟩ := ⟨Tryz.underlying68, by kernel_rfl, rfl, fun _ => rfl⟩
theorem ty69 : TI.ok Tryz.prog 69 ⟨.int .u64, 1, 8, .int .u64 0⟩ := ⟨Tryz.underlying69, by kernel_rfl, rfl, fun _ => rfl⟩
theorem ty70 : TI.ok Tryz.prog 70 ⟨.struct [(0, 38), (1, 3), (2, 69)], 3, 40, .agg #[.slice none 0 0, .int .i64 0, .int .u64 0]⟩ := ⟨⟨_, Tryz.underlying70, by kernel_rfl⟩, by kernel_rfl, rfl, fun h => nomatch h⟩
theorem ty71 : TI.ok Tryz.prog 71 ⟨.struct [(0, 38), (1, 3), (2, 69)], 3, 40, .agg #[.slice none 0 0, .int .i64 0, .int .u64 0]⟩ := ⟨⟨_, Tryz.underlying71, by kernel_rfl⟩, by kernel_rfl, rfl, fun h => nomatch h⟩
theorem ty72 : TI.ok Tryz.prog 72 ⟨.fn, 1, 8, .nilFunc⟩ := ⟨⟨_, _, _, Tryz.underlying72⟩, by kernel_rfl, rfl, fun _ => rfl⟩
theorem ty74 : TI.ok Tryz.prog 74 ⟨.fn, 1, 8, .nilFunc⟩ := ⟨⟨_, _, _, Tryz.underlying74⟩, by kernel_rfl, rfl, fun _ => rfl⟩
theorem ty75 : TI.ok Tryz.prog 75 ⟨.fn, 1, 8, .nilFunc⟩ := ⟨⟨_, _, _, Tryz.underlying75⟩, by kernel_rfl, rfl, fun _ => rfl⟩
theorem ty76 : TI.ok Tryz.prog 76 ⟨.fn, 1, 8, .nilFunc⟩ := ⟨⟨_, _, _, Tryz.underlying76⟩, by kernel_rfl, rfl, fun _ => rfl⟩
theorem ty77 : TI.ok Tryz.prog 77 ⟨.fn, 1, 8, .nilFunc⟩ := ⟨⟨_, _, _, Tryz.underlying77⟩, by kernel_rfl, rfl, fun _ => rfl⟩
theorem ty78 : TI.ok Tryz.prog 78 ⟨.fn, 1, 8, .nilFunc⟩ := ⟨⟨_, _, _, Tryz.underlying78⟩, by kernel_rfl, rfl, fun _ => rfl⟩
theorem ty79 : TI.ok Tryz.prog 79 ⟨.fn, 1, 8, .nilFunc⟩ := ⟨⟨_, _, _, Tryz.underlying79⟩, by kernel_rfl, rfl, fun _ => rfl⟩
theorem ty80 : TI.ok Tryz.prog 80 ⟨.fn, 1, 8, .nilFunc⟩ := ⟨⟨_, _, _, Tryz.underlying80⟩, by kernel_rfl, rfl, fun _ => rfl⟩
theorem ty81 : TI.ok Tryz.prog 81 ⟨.fn, 1, 8, .nilFunc⟩ := ⟨⟨_, _, _, Tryz.underlying81⟩, by kernel_rfl, rfl, fun _ => rfl⟩
theorem ty82 : TI.ok Tryz.prog 82 ⟨.fn, 1, 8, .nilFunc⟩ := ⟨⟨_, _, _, Tryz.underlying82⟩, by kernel_rfl, rfl, fun _ => rfl⟩
theorem ty83 : TI.ok Tryz.prog 83 ⟨.fn, 1, 8, .nilFunc⟩ := ⟨⟨_, _, _, Tryz.underlying83⟩, by kernel_rfl, rfl, fun _ => rfl⟩
theorem ty84 : TI.ok Tryz.prog 84 ⟨.fn, 1, 8, .nilFunc⟩ := ⟨⟨_, _, _, Tryz.underlying84⟩, by kernel_rfl, rfl, fun _ => rfl⟩
theorem ty85 : TI.ok Tryz.prog 85 ⟨.fn, 1, 8, .nilFunc⟩ := ⟨⟨_, _, _, Tryz.underlying85⟩, by kernel_rfl, rfl, fun _ => rfl⟩
theorem ty86 : TI.ok Tryz.prog 86 ⟨.fn, 1, 8, .nilFunc⟩ := ⟨⟨_, _, _, Tryz.underlying86⟩, by kernel_rfl, rfl, fun _ => rfl⟩
theorem ty87 : TI.ok Tryz.prog 87 ⟨.fn, 1, 8, .nilFunc⟩ := ⟨⟨_, _, _, Tryz.underlying87⟩, by kernel_rfl, rfl, fun _ => rfl⟩
theorem ty88 : TI.ok Tryz.prog 88 ⟨.fn, 1, 8, .nilFunc⟩ := ⟨⟨_, _, _, Tryz.underlying88⟩, by kernel_rfl, rfl, fun _ => rfl⟩
theorem ty89 : TI.ok Tryz.prog 89 ⟨.fn, 1, 8, .nilFunc⟩ := ⟨⟨_, _, _, Tryz.underlying89⟩, by kernel_rfl, rfl, fun _ => rfl⟩
theorem ty90 : TI.ok Tryz.prog 90 ⟨.fn, 1, 8, .nilFunc⟩ := ⟨⟨_, _, _, Tryz.underlying90⟩, by kernel_rfl, rfl, fun _ => rfl⟩
theorem ty91 : TI.ok Tryz.prog 91 ⟨.fn, 1, 8, .nilFunc⟩ := ⟨⟨_, _, _, Tryz.underlying91⟩, by kernel_rfl, rfl, fun _ => rfl⟩
theorem ty92 : TI.ok Tryz.prog 92 ⟨.fn, 1, 8, .nilFunc⟩ := ⟨⟨_, _, _, Tryz.underlying92⟩, by kernel_rfl, rfl, fun _ => rfl⟩
theorem ty94 : TI.ok Tryz.prog 94 ⟨.fn, 1, 8, .nilFunc⟩ := ⟨⟨_, _, _, Tryz.underlying94⟩, by kernel_rfl, rfl, fun _ => rfl⟩
theorem ty95 : TI.ok Tryz.prog 95 ⟨.fn, 1, 8, .nilFunc⟩ := ⟨⟨_, _, _, Tryz.underlying95⟩, by kernel_rfl, rfl, fun _ => rfl⟩
theorem ty96 : TI.ok Tryz.prog 96 ⟨.fn, 1, 8, .nilFunc⟩ := ⟨⟨_, _, _, Tryz.underlying96⟩, by kernel_rfl, rfl, fun _ => rfl⟩
theorem ty97 : TI.ok Tryz.prog 97 ⟨.fn, 1, 8, .nilFunc⟩ := ⟨⟨_, _, _, Tryz.underlying97⟩, by kernel_rfl, rfl, fun _ => rfl⟩
theorem ty98 : TI.ok Tryz.prog 98 ⟨.fn, 1, 8, .nilFunc⟩ := ⟨⟨_, _, _, Tryz.underlying98⟩, by kernel_rfl, rfl, fun _ => rfl⟩
theorem ty99 : TI.ok Tryz.prog 99 ⟨.fn, 1, 8, .nilFunc⟩ := ⟨⟨_, _, _, Tryz.underlying99⟩, by kernel_rfl, rfl, fun _ => rfl⟩
theorem ty100 : TI.ok Tryz.prog 100 ⟨.fn, 1, 8, .nilFunc⟩ := ⟨⟨_, _, _, Tryz.underlying100⟩, by kernel_rfl, rfl, fun _ => rfl⟩
theorem ty101 : TI.ok Tryz.prog 101 ⟨.fn, 1, 8, .nilFunc⟩ := ⟨⟨_, _, _, Tryz.underlying101⟩, by kernel_rfl, rfl, fun _ => rfl⟩
theorem ty102 : TI.ok Tryz.prog 102 ⟨.fn, 1, 8, .nilFunc⟩ := ⟨⟨_, _, _, Tryz.underlying102⟩, by kernel_rfl, rfl, fun _ => rfl⟩
theorem ty103 : TI.ok Tryz.prog 103 ⟨.fn, 1, 8, .nilFunc⟩ := ⟨⟨_, _, _, Tryz.underlying103⟩, by kernel_rfl, rfl, fun _ => rfl⟩
theorem ty104 : TI.ok Tryz.prog 104 ⟨.fn, 1, 8, .nilFunc⟩ := ⟨⟨_, _, _, Tryz.underlying104⟩, by kernel_rfl, rfl, fun _ => rfl⟩
theorem ty105 : TI.ok Tryz.prog 105 ⟨.fn, 1, 8, .nilFunc⟩ := ⟨⟨_, _, _, Tryz.underlying105⟩, by kernel_rfl, rfl, fun _ => rfl⟩
theorem ty106 : TI.ok Tryz.prog 106 ⟨.fn, 1, 8, .nilFunc⟩ := ⟨⟨_, _, _, Tryz.underlying106⟩, by kernel_rfl, rfl, fun _ => rfl⟩
theorem ty107 : TI.ok Tryz.prog 107 ⟨.fn, 1, 8, .nilFunc⟩ := ⟨⟨_, _, _, Tryz.underlying107⟩, by kernel_rfl, rfl, fun _ => rfl⟩
theorem ty108 : TI.ok Tryz.prog 108 ⟨.fn, 1, 8, .nilFunc⟩ := ⟨⟨_, _, _, Tryz.underlying108⟩, by kernel_rfl, rfl, fun _ => rfl⟩
theorem ty109 : TI.ok Tryz.prog 109 ⟨.fn, 1, 8, .nilFunc⟩ := ⟨⟨_, _, _, Tryz.underlying109⟩, by kernel_rfl, rfl, fun _ => rfl⟩
theorem ty110 : TI.ok Tryz.prog 110 ⟨.fn, 1, 8, .nilFunc⟩ := ⟨⟨_, _, _, Tryz.underlying110⟩, by kernel_rfl, rfl, fun _ => rfl⟩
theorem ty111 : TI.ok Tryz.prog 111 ⟨.fn, 1, 8, .nilFunc⟩ := ⟨⟨_, _, _, Tryz.underlying111⟩, by kernel_rfl, rfl, fun _ => rfl⟩
theorem ty112 : TI.ok Tryz.prog 112 ⟨.int .u64, 1, 8, .int .u64 0⟩ := ⟨Tryz.underlying112, by kernel_rfl, rfl, fun _ => rfl⟩
theorem ty113 : TI.ok Tryz.prog 113 ⟨.fn, 1, 8, .nilFunc⟩ := ⟨⟨_, _, _, Tryz.underlying113⟩, by kernel_rfl, rfl, fun _ => rfl⟩
theorem ty114 : TI.ok Tryz.prog 114 ⟨.fn, 1, 8, .nilFunc⟩ := ⟨⟨_, _, _, Tryz.underlying114⟩, by kernel_rfl, rfl, fun _ => rfl⟩
theorem ty115 : TI.ok Tryz.prog 115 ⟨.fn, 1, 8, .nilFunc⟩ := ⟨⟨_, _, _, Tryz.underlying115⟩, by kernel_rfl, rfl, fun _ => rfl⟩
theorem ty116 : TI.ok Tryz.prog 116 ⟨.int .i64, 1, 8, .int .i64 0⟩ := ⟨Tryz.underlying116, by kernel_rfl, rfl, fun _ => rfl⟩
theorem ty118 : TI.ok Tryz.prog 118 ⟨.fn, 1, 8, .nilFunc⟩ := ⟨⟨_, _, _, Tryz.underlying118⟩, by kernel_rfl, rfl, fun _ => rfl⟩
theorem ty119 : TI.ok Tryz.prog 119 ⟨.fn, 1, 8, .nilFunc⟩ := ⟨⟨_, _, _, Tryz.underlying119⟩, by kernel_rfl, rfl, fun _ => rfl⟩
theorem ty120 : TI.ok Tryz.prog 120 ⟨.fn, 1, 8, .nilFunc⟩ := ⟨⟨_, _, _, Tryz.underlying120⟩, by kernel_rfl, rfl, fun _ => rfl⟩
theorem ty121 : TI.ok Tryz.prog 121 ⟨.fn, 1, 8, .nilFunc⟩ := ⟨⟨_, _, _, Tryz.underlying121⟩, by kernel_rfl, rfl, fun _ => rfl⟩
theorem ty122 : TI.ok Tryz.prog 122 ⟨.fn, 1, 8, .nilFunc⟩ := ⟨⟨_, _, _, Tryz.underlying122⟩, by kernel_rfl, rfl, fun _ => rfl⟩
theorem ty123 : TI.ok Tryz.prog 123 ⟨.fn, 1, 8, .nilFunc⟩ := ⟨⟨_, _, _, Tryz.underlying123⟩, by kernel_rfl, rfl, fun _ => rfl⟩
theorem ty124 : TI.ok Tryz.prog 124 ⟨.int .u32, 1, 4, .int .u32 0⟩ := ⟨Tryz.underlying124, by kernel_rfl, rfl, fun _ => rfl⟩
theorem ty125 : TI.ok Tryz.prog 125 ⟨.fn, 1, 8, .nilFunc⟩ := ⟨⟨_, _, _, Tryz.underlying125⟩, by kernel_rfl, rfl, fun _ => rfl⟩
theorem ty126 : TI.ok Tryz.prog 126 ⟨.int .u64, 1, 8, .int .u64 0⟩ := ⟨Tryz.underlying126, by kernel_rfl, rfl, fun _ => rfl⟩
theorem ty127 : TI.ok Tryz.prog 127 ⟨.fn, 1, 8, .nilFunc⟩ := ⟨⟨_, _, _, Tryz.underlying127⟩, by kernel_rfl, rfl, fun _ => rfl⟩
theorem ty128 : TI.ok Tryz.prog 128 ⟨.fn, 1, 8, .nilFunc⟩ := ⟨⟨_, _, _, Tryz.underlying128⟩, by kernel_rfl, rfl, fun _ => rfl⟩
theorem ty129 : TI.ok Tryz.prog 129 ⟨.fn, 1, 8, .nilFunc⟩ := ⟨⟨_, _, _, Tryz.underlying129⟩, by kernel_rfl, rfl, fun _ => rfl⟩
theorem ty130 : TI.ok Tryz.prog 130 ⟨.ptr 3, 1, 8, .pointer none⟩ := ⟨Tryz.underlying130, by kernel_rfl, rfl, fun _ => rfl⟩
theorem ty131 : TI.ok Tryz.prog 131 ⟨.fn, 1, 8, .nilFunc⟩ := ⟨⟨_, _, _, Tryz.underlying131⟩, by kernel_rfl, rfl, fun _ => rfl⟩
theorem ty132 : TI.ok Tryz.prog 132 ⟨.ptr 126, 1, 8, .pointer none⟩ := ⟨Tryz.underlying132, by kernel_rfl, rfl, fun _ => rfl⟩
theorem ty134 : TI.ok Tryz.prog 134 ⟨.fn, 1, 8, .nilFunc⟩ := ⟨⟨_, _, _, Tryz.underlying134⟩, by kernel_rfl, rfl, fun _ => rfl⟩
theorem ty135 : TI.ok Tryz.prog 135 ⟨.fn, 1, 8, .nilFunc⟩ := ⟨⟨_, _, _, Tryz.underlying135⟩, by kernel_rfl, rfl, fun _ => rfl⟩
theorem ty143 : TI.ok Tryz.prog 143 ⟨.fn, 1, 8, .nilFunc⟩ := ⟨⟨_, _, _, Tryz.underlying143⟩, by kernel_rfl, rfl, fun _ => rfl⟩
theorem ty144 : TI.ok Tryz.prog 144 ⟨.ptr 5, 1, 8, .pointer none⟩ := ⟨Tryz.underlying144, by kernel_rfl, rfl, fun _ => rfl⟩
theorem ty147 : TI.ok Tryz.prog 147 ⟨.struct [(0, 12), (1, 12), (2, 124), (3, 141), (4, 5), (5, 5), (6, 142), (7, 143), (8, 144), (9, 145), (10, 146)], 11, 48, .agg #[.int .u64 0, .int .u64 0, .int .u32 0, .int .u8 0, .int .u8 0, .int .u8 0, .int .u8 0, .nilFunc, .pointer none, .int .i32 0, .int .i32 0]⟩ := ⟨⟨_, Tryz.underlying147, by kernel_rfl⟩, by kernel_rfl, rfl, fun h => nomatch h⟩
def tyTab : List (Option TI) := [none, some ⟨.fn, 1, 8, .nilFunc⟩, some ⟨.int .i64, 1, 8, .int .i64 0⟩, some ⟨.int .i64, 1, 8, .int .i64 0⟩, some ⟨.bool, 1, 1, .bool false⟩, some ⟨.int .u8, 1, 1, .int .u8 0⟩, none, none, none, some ⟨.str, 1, 16, .string ⟨#[]⟩⟩, none, none, some ⟨.int .u64, 1, 8, .int .u64 0⟩, none, none, none, none, some ⟨.ptr 148, 1, 8, .pointer none⟩, none, none, none, some ⟨.int .i32, 1, 4, .int .i32 0⟩, some ⟨.slice 9, 1, 24, .slice none 0 0⟩, some ⟨.slice 3, 1, 24, .slice none 0 0⟩, some ⟨.struct [(0, 22), (1, 23), (2, 3)], 3, 56, .agg #[.slice none 0 0, .slice none 0 0, .int .i64 0]⟩, some ⟨.struct [(0, 22), (1, 23), (2, 3)], 3, 56, .agg #[.slice none 0 0, .slice none 0 0, .int .i64 0]⟩, some ⟨.slice 53, 1, 24, .slice none 0 0⟩, some ⟨.fn, 1, 8, .nilFunc⟩, some ⟨.fn, 1, 8, .nilFunc⟩, none, some ⟨.fn, 1, 8, .nilFunc⟩, some ⟨.struct [(0, 22), (1, 23), (2, 3)], 3, 56, .agg #[.slice none 0 0, .slice none 0 0, .int .i64 0]⟩, some ⟨.fn, 1, 8, .nilFunc⟩, some ⟨.slice 41, 1, 24, .slice none 0 0⟩, some ⟨.fn, 1, 8, .nilFunc⟩, some ⟨.fn, 1, 8, .nilFunc⟩, some ⟨.fn, 1, 8, .nilFunc⟩, some ⟨.fn, 1, 8, .nilFunc⟩, some ⟨.slice 5, 1, 24, .slice none 0 0⟩, some ⟨.fn, 1, 8, .nilFunc⟩, some ⟨.struct [(0, 9), (1, 33)], 2, 40, .agg #[.string ⟨#[]⟩, .slice none 0 0]⟩, some ⟨.struct [(0, 9), (1, 33)], 2, 40, .agg #[.string ⟨#[]⟩, .slice none 0 0]⟩, none, some ⟨.fn, 1, 8, .nilFunc⟩, some ⟨.fn, 1, 8, .nilFunc⟩, some ⟨.fn, 1, 8, .nilFunc⟩, some ⟨.fn, 1, 8, .nilFunc⟩, none, some ⟨.fn, 1, 8, .nilFunc⟩, none, some ⟨.fn, 1, 8, .nilFunc⟩, some ⟨.fn, 1, 8, .nilFunc⟩, some ⟨.struct [(0, 9), (1, 26)], 2, 40, .agg #[.string ⟨#[]⟩, .slice none 0 0]⟩, some ⟨.struct [(0, 9), (1, 26)], 2, 40, .agg #[.string ⟨#[]⟩, .slice none 0 0]⟩, some ⟨.fn, 1, 8, .nilFunc⟩, some ⟨.fn, 1, 8, .nilFunc⟩, some ⟨.fn, 1, 8, .nilFunc⟩, some ⟨.fn, 1, 8, .nilFunc⟩, some ⟨.fn, 1, 8, .nilFunc⟩, some ⟨.fn, 1, 8, .nilFunc⟩, some ⟨.fn, 1, 8, .nilFunc⟩, some ⟨.fn, 1, 8, .nilFunc⟩, some ⟨.fn, 1, 8, .nilFunc⟩, some ⟨.fn, 1, 8, .nilFunc⟩, some ⟨.fn, 1, 8, .nilFunc⟩, some ⟨.fn, 1, 8, .nilFunc⟩, some ⟨.fn, 1, 8, .nilFunc⟩, some ⟨.fn, 1, 8, .nilFunc⟩, some ⟨.ptr 71, 1, 8, .pointer none⟩, some ⟨.int .u64, 1, 8, .int .u64 0⟩, some ⟨.struct [(0, 38), (1, 3), (2, 69)], 3, 40, .agg #[.slice none 0 0, .int .i64 0, .int .u64 0]⟩, some ⟨.struct [(0, 38), (1, 3), (2, 69)], 3, 40, .agg #[.slice none 0 0, .int .i64 0, .int .u64 0]⟩, some ⟨.fn, 1, 8, .nilFunc⟩, none, some ⟨.fn, 1, 8, .nilFunc⟩, some ⟨.fn, 1, 8, .nilFunc⟩, some ⟨.fn, 1, 8, .nilFunc⟩, some ⟨.fn, 1, 8, .nilFunc⟩, some ⟨.fn, 1, 8, .nilFunc⟩, some ⟨.fn, 1, 8, .nilFunc⟩, some ⟨.fn, 1, 8, .nilFunc⟩, some ⟨.fn, 1, 8, .nilFunc⟩, some ⟨.fn, 1, 8, .nilFunc⟩, some ⟨.fn, 1, 8, .nilFunc⟩, some ⟨.fn, 1, 8, .nilFunc⟩, some ⟨.fn, 1, 8, .nilFunc⟩, some ⟨.fn, 1, 8, .nilFunc⟩, some ⟨.fn, 1, 8, .nilFunc⟩, some ⟨.fn, 1, 8, .nilFunc⟩, some ⟨.fn, 1, 8, .nilFunc⟩, some ⟨.fn, 1, 8, .nilFunc⟩, some ⟨.fn, 1, 8, .nilFunc⟩, some ⟨.fn, 1, 8, .nilFunc⟩, none, some ⟨.fn, 1, 8, .nilFunc⟩, some ⟨.fn, 1, 8, .nilFunc⟩, some ⟨.fn, 1, 8, .nilFunc⟩, some ⟨.fn, 1, 8, .nilFunc⟩, some ⟨.fn, 1, 8, .nilFunc⟩, some ⟨.fn, 1, 8, .nilFunc⟩, some ⟨.fn, 1, 8, .nilFunc⟩, some ⟨.fn, 1, 8, .nilFunc⟩, some ⟨.fn, 1, 8, .nilFunc⟩, some ⟨.fn, 1, 8, .nilFunc⟩, some ⟨.fn, 1, 8, .nilFunc⟩, some ⟨.fn, 1, 8, .nilFunc⟩, some ⟨.fn, 1, 8, .nilFunc⟩, some ⟨.fn, 1, 8, .nilFunc⟩, some ⟨.fn, 1, 8, .nilFunc⟩, some ⟨.fn, 1, 8, .nilFunc⟩, some ⟨.fn, 1, 8, .nilFunc⟩, some ⟨.fn, 1, 8, .nilFunc⟩, some ⟨.int .u64, 1, 8, .int .u64 0⟩, some ⟨.fn, 1, 8, .nilFunc⟩, some ⟨.fn, 1, 8, .nilFunc⟩, some ⟨.fn, 1, 8, .nilFunc⟩, some ⟨.int .i64, 1, 8, .int .i64 0⟩, none, some ⟨.fn, 1, 8, .nilFunc⟩, some ⟨.fn, 1, 8, .nilFunc⟩, some ⟨.fn, 1, 8, .nilFunc⟩, some ⟨.fn, 1, 8, .nilFunc⟩, some ⟨.fn, 1, 8, .nilFunc⟩, some ⟨.fn, 1, 8, .nilFunc⟩, some ⟨.int .u32, 1, 4, .int .u32 0⟩, some ⟨.fn, 1, 8, .nilFunc⟩, some ⟨.int .u64, 1, 8, .int .u64 0⟩, some ⟨.fn, 1, 8, .nilFunc⟩, some ⟨.fn, 1, 8, .nilFunc⟩, some ⟨.fn, 1, 8, .nilFunc⟩, some ⟨.ptr 3, 1, 8, .pointer none⟩, some ⟨.fn, 1, 8, .nilFunc⟩, some ⟨.ptr 126, 1, 8, .pointer none⟩, none, some ⟨.fn, 1, 8, .nilFunc⟩, some ⟨.fn, 1, 8, .nilFunc⟩, none, none, none, none, none, none, none, some ⟨.fn, 1, 8, .nilFunc⟩, some ⟨.ptr 5, 1, 8, .pointer none⟩, none, none, some ⟨.struct [(0, 12), (1, 12), (2, 124), (3, 141), (4, 5), (5, 5), (6, 142), (7, 143), (8, 144), (9, 145), (10, 146)], 11, 48, .agg #[.int .u64 0, .int .u64 0, .int .u32 0, .int .u8 0, .int .u8 0, .int .u8 0, .int .u8 0, .nilFunc, .pointer none, .int .i32 0, .int .i32 0]⟩]
theorem tyok : TyOk Tryz.prog (tyD tyTab) := AllTy.ok ⟨ty1, ty2, ty3, ty4, ty5, ty9, ty12, ty17, ty21, ty22, ty23, ty24, ty25, ty26, ty27, ty28, ty30, ty31, ty32, ty33, ty34, ty35, ty36, ty37, ty38, ty39, ty40, ty41, ty43, ty44, ty45, ty46, ty48, ty50, ty51, ty52, ty53, ty54, ty55, ty56, ty57, ty58, ty59, ty60, ty61, ty62, ty63, ty64, ty65, ty66, ty67, ty68, ty69, ty70, ty71, ty72, ty74, ty75, ty76, ty77, ty78, ty79, ty80, ty81, ty82, ty83, ty84, ty85, ty86, ty87, ty88, ty89, ty90, ty91, ty92, ty94, ty95, ty96, ty97, ty98, ty99, ty100, ty101, ty102, ty103, ty104, ty105, ty106, ty107, ty108, ty109, ty110, ty111, ty112, ty113, ty114, ty115, ty116, ty118, ty119, ty120, ty121, ty122, ty123, ty124, ty125, ty126, ty127, ty128, ty129, ty130, ty131, ty132, ty134, ty135, ty143, ty144, ty147, trivial⟩
end Go.Proofs.YtheaeglaebimoaaGreat
