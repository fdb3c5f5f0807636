/- WRITTEN BY A PROGRAM (gen_ty.py): the types that the walks look at. -/
import Derived.Test.YtencikloakamfaaE15
import Derived.Test.YtencikloakamfaaChecked
import Derived.KernelRfl
namespace Go.Proofs.Ytencikloakamfaa
open Go Go.Proofs.Ytencikloakamfaa.Abs

theorem ty1 : TI.ok Try.prog 1 ⟨.fn, 1, 8, .nilFunc⟩ := ⟨⟨_, _, _, Try.underlying1⟩, by kernel_rfl, rfl, fun _ => rfl⟩
theorem ty2 : TI.ok Try.prog 2 ⟨.int .i64, 1, 8, .int .i64 0⟩ := ⟨Try.underlying2, by kernel_rfl, rfl, fun _ => rfl⟩
theorem ty3 : TI.ok Try.prog 3 ⟨.int .i64, 1, 8, .int .i64 0⟩ := ⟨Try.underlying3, by kernel_rfl, rfl, fun _ => rfl⟩
theorem ty4 : TI.ok Try.prog 4 ⟨.bool, 1, 1, .bool false⟩ := ⟨Try.underlying4, by kernel_rfl, rfl, fun _ => rfl⟩
theorem ty5 : TI.ok Try.prog 5 ⟨.int .u8, 1, 1, .int .u8 0⟩ := ⟨Try.underlying5, by kernel_rfl, rfl, fun _ => rfl⟩
theorem ty9 : TI.ok Try.prog 9 ⟨.str, 1, 16, .string ⟨#[]⟩⟩ := ⟨Try.underlying9, by kernel_rfl, rfl, fun _ => rfl⟩
theorem ty12 : TI.ok Try.prog 12 ⟨.int .u64, 1, 8, .int .u64 0⟩ := ⟨Try.underlying12, by kernel_rfl, rfl, fun _ => rfl⟩
theorem ty17 : TI.ok Try.prog 17 ⟨.ptr 158, 1, 8, .pointer none⟩ := ⟨Try.underlying17, by kernel_rfl, rfl, fun _ => rfl⟩
theorem ty21 : TI.ok Try.prog 21 ⟨.int .i32, 1, 4, .int .i32 0⟩ := ⟨Try.underlying21, by kernel_rfl, rfl, fun _ => rfl⟩
theorem ty22 : TI.ok Try.prog 22 ⟨.slice 24, 1, 24, .slice none 0 0⟩ := ⟨Try.underlying22, by kernel_rfl, rfl, fun _ => rfl⟩
theorem ty23 : TI.ok Try.prog 23 ⟨.fn, 1, 8, .nilFunc⟩ := ⟨⟨_, _, _, Try.underlying23⟩, by kernel_rfl, rfl, fun _ => rfl⟩
theorem ty24 : TI.ok Try.prog 24 ⟨.slice 3, 1, 24, .slice none 0 0⟩ := ⟨Try.underlying24, by kernel_rfl, rfl, fun _ => rfl⟩
theorem ty26 : TI.ok Try.prog 26 ⟨.fn, 1, 8, .nilFunc⟩ := ⟨⟨_, _, _, Try.underlying26⟩, by kernel_rfl, rfl, fun _ => rfl⟩
theorem ty27 : TI.ok Try.prog 27 ⟨.fn, 1, 8, .nilFunc⟩ := ⟨⟨_, _, _, Try.underlying27⟩, by kernel_rfl, rfl, fun _ => rfl⟩
theorem ty28 : TI.ok Try.prog 28 ⟨.fn, 1, 8, .nilFunc⟩ := ⟨⟨_, _, _, Try.underlying28⟩, by kernel_rfl, rfl, fun _ => rfl⟩
theorem ty29 : TI.ok Try.prog 29 ⟨.fn, 1, 8, .nilFunc⟩ := ⟨⟨_, _, _, Try.underlying29⟩, by kernel_rfl, rfl, fun _ => rfl⟩
theorem ty30 : TI.ok Try.prog 30 ⟨.fn, 1, 8, .nilFunc⟩ := ⟨⟨_, _, _, Try.underlying30⟩, by kernel_rfl, rfl, fun _ => rfl⟩
theorem ty31 : TI.ok Try.prog 31 ⟨.fn, 1, 8, .nilFunc⟩ := ⟨⟨_, _, _, Try.underlying31⟩, by kernel_rfl, rfl, fun _ => rfl⟩
theorem ty33 : TI.ok Try.prog 33 ⟨.fn, 1, 8, .nilFunc⟩ := ⟨⟨_, _, _, Try.underlying33⟩, by kernel_rfl, rfl, fun _ => rfl⟩
theorem ty34 : TI.ok Try.prog 34 ⟨.fn, 1, 8, .nilFunc⟩ := ⟨⟨_, _, _, Try.underlying34⟩, by kernel_rfl, rfl, fun _ => rfl⟩
theorem ty35 : TI.ok Try.prog 35 ⟨.fn, 1, 8, .nilFunc⟩ := ⟨⟨_, _, _, Try.underlying35⟩, by kernel_rfl, rfl, fun _ => rfl⟩
theorem ty37 : TI.ok Try.prog 37 ⟨.fn, 1, 8, .nilFunc⟩ := ⟨⟨_, _, _, Try.underlying37⟩, by kernel_rfl, rfl, fun _ => rfl⟩
theorem ty38 : TI.ok Try.prog 38 ⟨.fn, 1, 8, .nilFunc⟩ := ⟨⟨_, _, _, Try.underlying38⟩, by kernel_rfl, rfl, fun _ => rfl⟩
theorem ty39 : TI.ok Try.prog 39 ⟨.slice 41, 1, 24, .slice none 0 0⟩ := ⟨Try.underlying39, by kernel_rfl, rfl, fun _ => rfl⟩
theorem ty40 : TI.ok Try.prog 40 ⟨.struct [(0, 9), (1, 39)], 2, 40, .agg #[.string ⟨#[]⟩, .slice none 0 0]⟩ := ⟨⟨_, Try.underlying40, by kernel_rfl⟩, by kernel_rfl, rfl, fun h => nomatch h⟩
theorem ty41 : TI.ok Try.prog 41 ⟨.struct [(0, 9), (1, 39)], 2, 40, .agg #[.string ⟨#[]⟩, .slice none 0 0]⟩ := ⟨⟨_, Try.underlying41, by kernel_rfl⟩, by kernel_rfl, rfl, fun h => nomatch h⟩
theorem ty42 : TI.ok Try.prog 42 ⟨.fn, 1, 8, .nilFunc⟩ := ⟨⟨_, _, _, Try.underlying42⟩, by kernel_rfl, rfl, fun _ => rfl⟩
theorem ty43 : TI.ok Try.prog 43 ⟨.fn, 1, 8, .nilFunc⟩ := ⟨⟨_, _, _, Try.underlying43⟩, by kernel_rfl, rfl, fun _ => rfl⟩
theorem ty44 : TI.ok Try.prog 44 ⟨.slice 46, 1, 24, .slice none 0 0⟩ := ⟨Try.underlying44, by kernel_rfl, rfl, fun _ => rfl⟩
theorem ty45 : TI.ok Try.prog 45 ⟨.struct [(0, 9), (1, 44)], 2, 40, .agg #[.string ⟨#[]⟩, .slice none 0 0]⟩ := ⟨⟨_, Try.underlying45, by kernel_rfl⟩, by kernel_rfl, rfl, fun h => nomatch h⟩
theorem ty46 : TI.ok Try.prog 46 ⟨.struct [(0, 9), (1, 44)], 2, 40, .agg #[.string ⟨#[]⟩, .slice none 0 0]⟩ := ⟨⟨_, Try.underlying46, by kernel_rfl⟩, by kernel_rfl, rfl, fun h => nomatch h⟩
theorem ty47 : TI.ok Try.prog 47 ⟨.fn, 1, 8, .nilFunc⟩ := ⟨⟨_, _, _, Try.underlying47⟩, by kernel_rfl, rfl, fun _ => rfl⟩
theorem ty48 : TI.ok Try.prog 48 ⟨.fn, 1, 8, .nilFunc⟩ := ⟨⟨_, _, _, Try.underlying48⟩, by kernel_rfl, rfl, fun _ => rfl⟩
theorem ty49 : TI.ok Try.prog 49 ⟨.fn, 1, 8, .nilFunc⟩ := ⟨⟨_, _, _, Try.underlying49⟩, by kernel_rfl, rfl, fun _ => rfl⟩
theorem ty50 : TI.ok Try.prog 50 ⟨.fn, 1, 8, .nilFunc⟩ := ⟨⟨_, _, _, Try.underlying50⟩, by kernel_rfl, rfl, fun _ => rfl⟩
theorem ty51 : TI.ok Try.prog 51 ⟨.fn, 1, 8, .nilFunc⟩ := ⟨⟨_, _, _, Try.underlying51⟩, by kernel_rfl, rfl, fun _ => rfl⟩
theorem ty52 : TI.ok Try.prog 52 ⟨.fn, 1, 8, .nilFunc⟩ := ⟨⟨_, _, _, Try.underlying52⟩, by kernel_rfl, rfl, fun _ => rfl⟩
theorem ty53 : TI.ok Try.prog 53 ⟨.fn, 1, 8, .nilFunc⟩ := ⟨⟨_, _, _, Try.underlying53⟩, by kernel_rfl, rfl, fun _ => rfl⟩
theorem ty54 : TI.ok Try.prog 54 ⟨.fn, 1, 8, .nilFunc⟩ := ⟨⟨_, _, _, Try.underlying54⟩, by kernel_rfl, rfl, fun _ => rfl⟩
theorem ty55 : TI.ok Try.prog 55 ⟨.fn, 1, 8, .nilFunc⟩ := ⟨⟨_, _, _, Try.underlying55⟩, by kernel_rfl, rfl, fun _ => rfl⟩
theorem ty56 : TI.ok Try.prog 56 ⟨.fn, 1, 8, .nilFunc⟩ := ⟨⟨_, _, _, Try.underlying56⟩, by kernel_rfl, rfl, fun _ => rfl⟩
theorem ty57 : TI.ok Try.prog 57 ⟨.fn, 1, 8, .nilFunc⟩ := ⟨⟨_, _, _, Try.underlying57⟩, by kernel_rfl, rfl, fun _ => rfl⟩
theorem ty58 : TI.ok Try.prog 58 ⟨.fn, 1, 8, .nilFunc⟩ := ⟨⟨_, _, _, Try.underlying58⟩, by kernel_rfl, rfl, fun _ => rfl⟩
theorem ty59 : TI.ok Try.prog 59 ⟨.fn, 1, 8, .nilFunc⟩ := ⟨⟨_, _, _, Try.underlying59⟩, by kernel_rfl, rfl, fun _ => rfl⟩
theorem ty61 : TI.ok Try.prog 61 ⟨.fn, 1, 8, .nilFunc⟩ := ⟨⟨_, _, _, Try.underlying61⟩, by kernel_rfl, rfl, fun _ => rfl⟩
theorem ty62 : TI.ok Try.prog 62 ⟨.fn, 1, 8, .nilFunc⟩ := ⟨⟨_, _, _, Try.underlying62⟩, by kernel_rfl, rfl, fun _ => rfl⟩
theorem ty63 : TI.ok Try.prog 63 ⟨.fn, 1, 8, .nilFunc⟩ := ⟨⟨_, _, _, Try.underlying63⟩, by kernel_rfl, rfl, fun _ => rfl⟩
theorem ty64 : TI.ok Try.prog 64 ⟨.fn, 1, 8, .nilFunc⟩ := ⟨⟨_, _, _, Try.underlying64⟩, by kernel_rfl, rfl, fun _ => rfl⟩
theorem ty65 : TI.ok Try.prog 65 ⟨.fn, 1, 8, .nilFunc⟩ := ⟨⟨_, _, _, Try.underlying65⟩, by kernel_rfl, rfl, fun _ => rfl⟩
theorem ty66 : TI.ok Try.prog 66 ⟨.fn, 1, 8, .nilFunc⟩ := ⟨⟨_, _, _, Try.underlying66⟩, by kernel_rfl, rfl, fun _ => rfl⟩
theorem ty67 : TI.ok Try.prog 67 ⟨.fn, 1, 8, .nilFunc⟩ := ⟨⟨_, _, _, Try.underlying67⟩, by kernel_rfl, rfl, fun _ => rfl⟩
theorem ty68 : TI.ok Try.prog 68 ⟨.fn, 1, 8, .nilFunc⟩ := ⟨⟨_, _, _, Try.underlying68⟩, by kernel_rfl, rfl, fun _ => rfl⟩
theorem ty69 : TI.ok Try.prog 69 ⟨.fn, 1, 8, .nilFunc⟩ := ⟨⟨_, _, _, Try.underlying69⟩, by kernel_rfl, rfl, fun _ => rfl⟩
theorem ty70 : TI.ok Try.prog 70 ⟨.fn, 1, 8, .nilFunc⟩ := ⟨⟨_, _, _, Try.underlying70⟩, by kernel_rfl, rfl, fun _ => rfl⟩
theorem ty71 : TI.ok Try.prog 71 ⟨.fn, 1, 8, .nilFunc⟩ := ⟨⟨_, _, _, Try.underlying71⟩, by kernel_rfl, rfl, fun _ => rfl⟩
theorem ty72 : TI.ok Try.prog 72 ⟨.int .u64, 1, 8, .int .u64 0⟩ := ⟨Try.underlying72, by kernel_rfl, rfl, fun _ => rfl⟩
theorem ty73 : TI.ok Try.prog 73 ⟨.fn, 1, 8, .nilFunc⟩ := ⟨⟨_, _, _, Try.underlying73⟩, by kernel_rfl, rfl, fun _ => rfl⟩
theorem ty74 : TI.ok Try.prog 74 ⟨.fn, 1, 8, .nilFunc⟩ := ⟨⟨_, _, _, Try.underlying74⟩, by kernel_rfl, rfl, fun _ => rfl⟩
theorem ty75 : TI.ok Try.prog 75 ⟨.fn, 1, 8, .nilFunc⟩ := ⟨⟨_, _, _, Try.underlying75⟩, by kernel_rfl, rfl, fun _ => rfl⟩
theorem ty76 : TI.ok Try.prog 76 ⟨.fn, 1, 8, .nilFunc⟩ := ⟨⟨_, _, _, Try.underlying76⟩, by kernel_rfl, rfl, fun _ => rfl⟩
theorem ty77 : TI.ok Try.prog 77 ⟨.fn, 1, 8, .nilFunc⟩ := ⟨⟨_, _, _, Try.underlying77⟩, by kernel_rfl, rfl, fun _ => rfl⟩
theorem ty78 : TI.ok Try.prog 78 ⟨.slice 9, 1, 24, .slice none 0 0⟩ := ⟨Try.underlying78, by kernel_rfl, rfl, fun _ => rfl⟩
theorem ty79 : TI.ok Try.prog 79 ⟨.fn, 1, 8, .nilFunc⟩ := ⟨⟨_, _, _, Try.underlying79⟩, by kernel_rfl, rfl, fun _ => rfl⟩
theorem ty80 : TI.ok Try.prog 80 ⟨.fn, 1, 8, .nilFunc⟩ := ⟨⟨_, _, _, Try.underlying80⟩, by kernel_rfl, rfl, fun _ => rfl⟩
theorem ty81 : TI.ok Try.prog 81 ⟨.struct [(0, 78), (1, 24), (2, 3)], 3, 56, .agg #[.slice none 0 0, .slice none 0 0, .int .i64 0]⟩ := ⟨⟨_, Try.underlying81, by kernel_rfl⟩, by kernel_rfl, rfl, fun h => nomatch h⟩
theorem ty82 : TI.ok Try.prog 82 ⟨.struct [(0, 78), (1, 24), (2, 3)], 3, 56, .agg #[.slice none 0 0, .slice none 0 0, .int .i64 0]⟩ := ⟨⟨_, Try.underlying82, by kernel_rfl⟩, by kernel_rfl, rfl, fun h => nomatch h⟩
theorem ty83 : TI.ok Try.prog 83 ⟨.fn, 1, 8, .nilFunc⟩ := ⟨⟨_, _, _, Try.underlying83⟩, by kernel_rfl, rfl, fun _ => rfl⟩
theorem ty84 : TI.ok Try.prog 84 ⟨.int .i64, 1, 8, .int .i64 0⟩ := ⟨Try.underlying84, by kernel_rfl, rfl, fun _ => rfl⟩
theorem ty86 : TI.ok Try.prog 86 ⟨.fn, 1, 8, .nilFunc⟩ := ⟨⟨_, _, _, Try.underlying86⟩, by kernel_rfl, rfl, fun _ => rfl⟩
theorem ty87 : TI.ok Try.prog 87 ⟨.fn, 1, 8, .nilFunc⟩ := ⟨⟨_, _, _, Try.underlying87⟩, by kernel_rfl, rfl, fun _ => rfl⟩
theorem ty88 : TI.ok Try.prog 88 ⟨.fn, 1, 8, .nilFunc⟩ := ⟨⟨_, _, _, Try.underlying88⟩, by kernel_rfl, rfl, fun _ => rfl⟩
theorem ty90 : TI.ok Try.prog 90 ⟨.fn, 1, 8, .nilFunc⟩ := ⟨⟨_, _, _, Try.underlying90⟩, by kernel_rfl, rfl, fun _ => rfl⟩
theorem ty91 : TI.ok Try.prog 91 ⟨.fn, 1, 8, .nilFunc⟩ := ⟨⟨_, _, _, Try.underlying91⟩, by kernel_rfl, rfl, fun _ => rfl⟩
theorem ty92 : TI.ok Try.prog 92 ⟨.int .u32, 1, 4, .int .u32 0⟩ := ⟨Try.underlying92, by kernel_rfl, rfl, fun _ => rfl⟩
theorem ty93 : TI.ok Try.prog 93 ⟨.fn, 1, 8, .nilFunc⟩ := ⟨⟨_, _, _, Try.underlying93⟩, by kernel_rfl, rfl, fun _ => rfl⟩
theorem ty94 : TI.ok Try.prog 94 ⟨.int .u64, 1, 8, .int .u64 0⟩ := ⟨Try.underlying94, by kernel_rfl, rfl, fun _ => rfl⟩
theorem ty95 : TI.ok Try.prog 95 ⟨.fn, 1, 8, .nilFunc⟩ := ⟨⟨_, _, _, Try.underlying95⟩, by kernel_rfl, rfl, fun _ => rfl⟩
theorem ty96 : TI.ok Try.prog 96 ⟨.fn, 1, 8, .nilFunc⟩ := ⟨⟨_, _, _, Try.underlying96⟩, by kernel_rfl, rfl, fun _ => rfl⟩
theorem ty97 : TI.ok Try.prog 97 ⟨.fn, 1, 8, .nilFunc⟩ := ⟨⟨_, _, _, Try.underlying97⟩, by kernel_rfl, rfl, fun _ => rfl⟩
theorem ty98 : TI.ok Try.prog 98 ⟨.fn, 1, 8, .nilFunc⟩ := ⟨⟨_, _, _, Try.underlying98⟩, by kernel_rfl, rfl, fun _ => rfl⟩
theorem ty99 : TI.ok Try.prog 99 ⟨.fn, 1, 8, .nilFunc⟩ := ⟨⟨_, _, _, Try.underlying99⟩, by kernel_rfl, rfl, fun _ => rfl⟩
theorem ty100 : TI.ok Try.prog 100 ⟨.fn, 1, 8, .nilFunc⟩ := ⟨⟨_, _, _, Try.underlying100⟩, by kernel_rfl, rfl, fun _ => rfl⟩
theorem ty101 : TI.ok Try.prog 101 ⟨.fn, 1, 8, .nilFunc⟩ := ⟨⟨_, _, _, Try.underlying101⟩, by kernel_rfl, rfl, fun _ => rfl⟩
theorem ty102 : TI.ok Try.prog 102 ⟨.fn, 1, 8, .nilFunc⟩ := ⟨⟨_, _, _, Try.underlying102⟩, by kernel_rfl, rfl, fun _ => rfl⟩
theorem ty103 : TI.ok Try.prog 103 ⟨.fn, 1, 8, .nilFunc⟩ := ⟨⟨_, _, _, Try.underlying103⟩, by kernel_rfl, rfl, fun _ => rfl⟩
theorem ty105 : TI.ok Try.prog 105 ⟨.fn, 1, 8, .nilFunc⟩ := ⟨⟨_, _, _, Try.underlying105⟩, by kernel_rfl, rfl, fun _ => rfl⟩
theorem ty106 : TI.ok Try.prog 106 ⟨.fn, 1, 8, .nilFunc⟩ := ⟨⟨_, _, _, Try.underlying106⟩, by kernel_rfl, rfl, fun _ => rfl⟩
theorem ty107 : TI.ok Try.prog 107 ⟨.fn, 1, 8, .nilFunc⟩ := ⟨⟨_, _, _, Try.underlying107⟩, by kernel_rfl, rfl, fun _ => rfl⟩
theorem ty108 : TI.ok Try.prog 108 ⟨.int .u64, 1, 8, .int .u64 0⟩ := ⟨Try.underlying108, by kernel_rfl, rfl, fun _ => rfl⟩
theorem ty109 : TI.ok Try.prog 109 ⟨.fn, 1, 8, .nilFunc⟩ := ⟨⟨_, _, _, Try.underlying109⟩, by kernel_rfl, rfl, fun _ => rfl⟩
theorem ty110 : TI.ok Try.prog 110 ⟨.fn, 1, 8, .nilFunc⟩ := ⟨⟨_, _, _, Try.underlying110⟩, by kernel_rfl, rfl, fun _ => rfl⟩
theorem ty111 : TI.ok Try.prog 111 ⟨.fn, 1, 8, .nilFunc⟩ := ⟨⟨_, _, _, Try.underlying111⟩, by kernel_rfl, rfl, fun _ => rfl⟩
theorem ty112 : TI.ok Try.prog 112 ⟨.ptr 3, 1, 8, .pointer none⟩ := ⟨Try.underlying112, by kernel_rfl, rfl, fun _ => rfl⟩
theorem ty113 : TI.ok Try.prog 113 ⟨.fn, 1, 8, .nilFunc⟩ := ⟨⟨_, _, _, Try.underlying113⟩, by kernel_rfl, rfl, fun _ => rfl⟩
theorem ty114 : TI.ok Try.prog 114 ⟨.fn, 1, 8, .nilFunc⟩ := ⟨⟨_, _, _, Try.underlying114⟩, by kernel_rfl, rfl, fun _ => rfl⟩
theorem ty115 : TI.ok Try.prog 115 ⟨.fn, 1, 8, .nilFunc⟩ := ⟨⟨_, _, _, Try.underlying115⟩, by kernel_rfl, rfl, fun _ => rfl⟩
theorem ty116 : TI.ok Try.prog 116 ⟨.fn, 1, 8, .nilFunc⟩ := ⟨⟨_, _, _, Try.underlying116⟩, by kernel_rfl, rfl, fun _ => rfl⟩
theorem ty117 : TI.ok Try.prog 117 ⟨.fn, 1, 8, .nilFunc⟩ := ⟨⟨_, _, _, Try.underlying117⟩, by kernel_rfl, rfl, fun _ => rfl⟩
theorem ty118 : TI.ok Try.prog 118 ⟨.fn, 1, 8, .nilFunc⟩ := ⟨⟨_, _, _, Try.underlying118⟩, by kernel_rfl, rfl, fun _ => rfl⟩
theorem ty119 : TI.ok Try.prog 119 ⟨.fn, 1, 8, .nilFunc⟩ := ⟨⟨_, _, _, Try.underlying119⟩, by kernel_rfl, rfl, fun _ => rfl⟩
theorem ty120 : TI.ok Try.prog 120 ⟨.fn, 1, 8, .nilFunc⟩ := ⟨⟨_, _, _, Try.underlying120⟩, by kernel_rfl, rfl, fun _ => rfl⟩
theorem ty121 : TI.ok Try.prog 121 ⟨.fn, 1, 8, .nilFunc⟩ := ⟨⟨_, _, _, Try.underlying121⟩, by kernel_rfl, rfl, fun _ => rfl⟩
theorem ty122 : TI.ok Try.prog 122 ⟨.fn, 1, 8, .nilFunc⟩ := ⟨⟨_, _, _, Try.underlying122⟩, by kernel_rfl, rfl, fun _ => rfl⟩
theorem ty123 : TI.ok Try.prog 123 ⟨.fn, 1, 8, .nilFunc⟩ := ⟨⟨_, _, _, Try.underlying123⟩, by kernel_rfl, rfl, fun _ => rfl⟩
theorem ty124 : TI.ok Try.prog 124 ⟨.fn, 1, 8, .nilFunc⟩ := ⟨⟨_, _, _, Try.underlying124⟩, by kernel_rfl, rfl, fun _ => rfl⟩
theorem ty125 : TI.ok Try.prog 125 ⟨.fn, 1, 8, .nilFunc⟩ := ⟨⟨_, _, _, Try.underlying125⟩, by kernel_rfl, rfl, fun _ => rfl⟩
theorem ty126 : TI.ok Try.prog 126 ⟨.fn, 1, 8, .nilFunc⟩ := ⟨⟨_, _, _, Try.underlying126⟩, by kernel_rfl, rfl, fun _ => rfl⟩
theorem ty127 : TI.ok Try.prog 127 ⟨.fn, 1, 8, .nilFunc⟩ := ⟨⟨_, _, _, Try.underlying127⟩, by kernel_rfl, rfl, fun _ => rfl⟩
theorem ty129 : TI.ok Try.prog 129 ⟨.fn, 1, 8, .nilFunc⟩ := ⟨⟨_, _, _, Try.underlying129⟩, by kernel_rfl, rfl, fun _ => rfl⟩
theorem ty131 : TI.ok Try.prog 131 ⟨.fn, 1, 8, .nilFunc⟩ := ⟨⟨_, _, _, Try.underlying131⟩, by kernel_rfl, rfl, fun _ => rfl⟩
theorem ty132 : TI.ok Try.prog 132 ⟨.fn, 1, 8, .nilFunc⟩ := ⟨⟨_, _, _, Try.underlying132⟩, by kernel_rfl, rfl, fun _ => rfl⟩
theorem ty133 : TI.ok Try.prog 133 ⟨.fn, 1, 8, .nilFunc⟩ := ⟨⟨_, _, _, Try.underlying133⟩, by kernel_rfl, rfl, fun _ => rfl⟩
theorem ty135 : TI.ok Try.prog 135 ⟨.fn, 1, 8, .nilFunc⟩ := ⟨⟨_, _, _, Try.underlying135⟩, by kernel_rfl, rfl, fun _ => rfl⟩
theorem ty136 : TI.ok Try.prog 136 ⟨.ptr 108, 1, 8, .pointer none⟩ := ⟨Try.underlying136, by kernel_rfl, rfl, fun _ => rfl⟩
theorem ty137 : TI.ok Try.prog 137 ⟨.fn, 1, 8, .nilFunc⟩ := ⟨⟨_, _, _, Try.underlying137⟩, by kernel_rfl, rfl, fun _ => rfl⟩
theorem ty138 : TI.ok Try.prog 138 ⟨.fn, 1, 8, .nilFunc⟩ := ⟨⟨_, _, _, Try.underlying138⟩, by kernel_rfl, rfl, fun _ => rfl⟩
theorem ty139 : TI.ok Try.prog 139 ⟨.fn, 1, 8, .nilFunc⟩ := ⟨⟨_, _, _, Try.underlying139⟩, by kernel_rfl, rfl, fun _ => rfl⟩
theorem ty140 : TI.ok Try.prog 140 ⟨.fn, 1, 8, .nilFunc⟩ := ⟨⟨_, _, _, Try.underlying140⟩, by kernel_rfl, rfl, fun _ => rfl⟩
theorem ty141 : TI.ok Try.prog 141 ⟨.fn, 1, 8, .nilFunc⟩ := ⟨⟨_, _, _, Try.underlying141⟩, by kernel_rfl, rfl, fun _ => rfl⟩
theorem ty142 : TI.ok Try.prog 142 ⟨.fn, 1, 8, .nilFunc⟩ := ⟨⟨_, _, _, Try.underlying142⟩, by kernel_rfl, rfl, fun _ => rfl⟩
theorem ty143 : TI.ok Try.prog 143 ⟨.fn, 1, 8, .nilFunc⟩ := ⟨⟨_, _, _, Try.underlying143⟩, by kernel_rfl, rfl, fun _ => rfl⟩
theorem ty144 : TI.ok Try.prog 144 ⟨.fn, 1, 8, .nilFunc⟩ := ⟨⟨_, _, _, Try.underlying144⟩, by kernel_rfl, rfl, fun _ => rfl⟩
theorem ty150 : TI.ok Try.prog 150 ⟨.fn, 1, 8, .nilFunc⟩ := ⟨⟨_, _, _, Try.underlying150⟩, by kernel_rfl, rfl, fun _ => rfl⟩
theorem ty153 : TI.ok Try.prog 153 ⟨.fn, 1, 8, .nilFunc⟩ := ⟨⟨_, _, _, Try.underlying153⟩, by kernel_rfl, rfl, fun _ => rfl⟩
theorem ty154 : TI.ok Try.prog 154 ⟨.ptr 5, 1, 8, .pointer none⟩ := ⟨Try.underlying154, by kernel_rfl, rfl, fun _ => rfl⟩
theorem ty157 : TI.ok Try.prog 157 ⟨.struct [(0, 12), (1, 12), (2, 92), (3, 151), (4, 5), (5, 5), (6, 152), (7, 153), (8, 154), (9, 155), (10, 156)], 11, 48, .agg #[.int .u64 0, .int .u64 0, .int .u32 0, .int .u8 0, .int .u8 0, .int .u8 0, .int .u8 0, .nilFunc, .pointer none, .int .i32 0, .int .i32 0]⟩ := ⟨⟨_, Try.underlying157, by kernel_rfl⟩, by kernel_rfl, rfl, fun h => nomatch h⟩
def tyTab : List (Option TI) := [none, some ⟨.fn, 1, 8, .nilFunc⟩, some ⟨.int .i64, 1, 8, .int .i64 0⟩, some ⟨.int .i64, 1, 8, .int .i64 0⟩, some ⟨.bool, 1, 1, .bool false⟩, some ⟨.int .u8, 1, 1, .int .u8 0⟩, none, none, none, some ⟨.str, 1, 16, .string ⟨#[]⟩⟩, none, none, some ⟨.int .u64, 1, 8, .int .u64 0⟩, none, none, none, none, some ⟨.ptr 158, 1, 8, .pointer none⟩, none, none, none, some ⟨.int .i32, 1, 4, .int .i32 0⟩, some ⟨.slice 24, 1, 24, .slice none 0 0⟩, some ⟨.fn, 1, 8, .nilFunc⟩, some ⟨.slice 3, 1, 24, .slice none 0 0⟩, none, some ⟨.fn, 1, 8, .nilFunc⟩, some ⟨.fn, 1, 8, .nilFunc⟩, some ⟨.fn, 1, 8, .nilFunc⟩, some ⟨.fn, 1, 8, .nilFunc⟩, some ⟨.fn, 1, 8, .nilFunc⟩, some ⟨.fn, 1, 8, .nilFunc⟩, none, some ⟨.fn, 1, 8, .nilFunc⟩, some ⟨.fn, 1, 8, .nilFunc⟩, some ⟨.fn, 1, 8, .nilFunc⟩, none, some ⟨.fn, 1, 8, .nilFunc⟩, some ⟨.fn, 1, 8, .nilFunc⟩, some ⟨.slice 41, 1, 24, .slice none 0 0⟩, some ⟨.struct [(0, 9), (1, 39)], 2, 40, .agg #[.string ⟨#[]⟩, .slice none 0 0]⟩, some ⟨.struct [(0, 9), (1, 39)], 2, 40, .agg #[.string ⟨#[]⟩, .slice none 0 0]⟩, some ⟨.fn, 1, 8, .nilFunc⟩, some ⟨.fn, 1, 8, .nilFunc⟩, some ⟨.slice 46, 1, 24, .slice none 0 0⟩, some ⟨.struct [(0, 9), (1, 44)], 2, 40, .agg #[.string ⟨#[]⟩, .slice none 0 0]⟩, some ⟨.struct [(0, 9), (1, 44)], 2, 40, .agg #[.string ⟨#[]⟩, .slice none 0 0]⟩, some ⟨.fn, 1, 8, .nilFunc⟩, some ⟨.fn, 1, 8, .nilFunc⟩, some ⟨.fn, 1, 8, .nilFunc⟩, some ⟨.fn, 1, 8, .nilFunc⟩, some ⟨.fn, 1, 8, .nilFunc⟩, some ⟨.fn, 1, 8, .nilFunc⟩, some ⟨.fn, 1, 8, .nilFunc⟩, some ⟨.fn, 1, 8, .nilFunc⟩, some ⟨.fn, 1, 8, .nilFunc⟩, some ⟨.fn, 1, 8, .nilFunc⟩, some ⟨.fn, 1, 8, .nilFunc⟩, some ⟨.fn, 1, 8, .nilFunc⟩, some ⟨.fn, 1, 8, .nilFunc⟩, none, some ⟨.fn, 1, 8, .nilFunc⟩, some ⟨.fn, 1, 8, .nilFunc⟩, some ⟨.fn, 1, 8, .nilFunc⟩, some ⟨.fn, 1, 8, .nilFunc⟩, some ⟨.fn, 1, 8, .nilFunc⟩, some ⟨.fn, 1, 8, .nilFunc⟩, some ⟨.fn, 1, 8, .nilFunc⟩, some ⟨.fn, 1, 8, .nilFunc⟩, some ⟨.fn, 1, 8, .nilFunc⟩, some ⟨.fn, 1, 8, .nilFunc⟩, some ⟨.fn, 1, 8, .nilFunc⟩, some ⟨.int .u64, 1, 8, .int .u64 0⟩, some ⟨.fn, 1, 8, .nilFunc⟩, some ⟨.fn, 1, 8, .nilFunc⟩, some ⟨.fn, 1, 8, .nilFunc⟩, some ⟨.fn, 1, 8, .nilFunc⟩, some ⟨.fn, 1, 8, .nilFunc⟩, some ⟨.slice 9, 1, 24, .slice none 0 0⟩, some ⟨.fn, 1, 8, .nilFunc⟩, some ⟨.fn, 1, 8, .nilFunc⟩, some ⟨.struct [(0, 78), (1, 24), (2, 3)], 3, 56, .agg #[.slice none 0 0, .slice none 0 0, .int .i64 0]⟩, some ⟨.struct [(0, 78), (1, 24), (2, 3)], 3, 56, .agg #[.slice none 0 0, .slice none 0 0, .int .i64 0]⟩, some ⟨.fn, 1, 8, .nilFunc⟩, some ⟨.int .i64, 1, 8, .int .i64 0⟩, none, some ⟨.fn, 1, 8, .nilFunc⟩, some ⟨.fn, 1, 8, .nilFunc⟩, some ⟨.fn, 1, 8, .nilFunc⟩, none, some ⟨.fn, 1, 8, .nilFunc⟩, some ⟨.fn, 1, 8, .nilFunc⟩, some ⟨.int .u32, 1, 4, .int .u32 0⟩, some ⟨.fn, 1, 8, .nilFunc⟩, some ⟨.int .u64, 1, 8, .int .u64 0⟩, some ⟨.fn, 1, 8, .nilFunc⟩, some ⟨.fn, 1, 8, .nilFunc⟩, some ⟨.fn, 1, 8, .nilFunc⟩, some ⟨.fn, 1, 8, .nilFunc⟩, some ⟨.fn, 1, 8, .nilFunc⟩, some ⟨.fn, 1, 8, .nilFunc⟩, some ⟨.fn, 1, 8, .nilFunc⟩, some ⟨.fn, 1, 8, .nilFunc⟩, some ⟨.fn, 1, 8, .nilFunc⟩, none, some ⟨.fn, 1, 8, .nilFunc⟩, some ⟨.fn, 1, 8, .nilFunc⟩, some ⟨.fn, 1, 8, .nilFunc⟩, some ⟨.int .u64, 1, 8, .int .u64 0⟩, some ⟨.fn, 1, 8, .nilFunc⟩, some ⟨.fn, 1, 8, .nilFunc⟩, some ⟨.fn, 1, 8, .nilFunc⟩, some ⟨.ptr 3, 1, 8, .pointer none⟩, some ⟨.fn, 1, 8, .nilFunc⟩, some ⟨.fn, 1, 8, .nilFunc⟩, some ⟨.fn, 1, 8, .nilFunc⟩, some ⟨.fn, 1, 8, .nilFunc⟩, some ⟨.fn, 1, 8, .nilFunc⟩, some ⟨.fn, 1, 8, .nilFunc⟩, some ⟨.fn, 1, 8, .nilFunc⟩, some ⟨.fn, 1, 8, .nilFunc⟩, some ⟨.fn, 1, 8, .nilFunc⟩, some ⟨.fn, 1, 8, .nilFunc⟩, some ⟨.fn, 1, 8, .nilFunc⟩, some ⟨.fn, 1, 8, .nilFunc⟩, some ⟨.fn, 1, 8, .nilFunc⟩, some ⟨.fn, 1, 8, .nilFunc⟩, some ⟨.fn, 1, 8, .nilFunc⟩, none, some ⟨.fn, 1, 8, .nilFunc⟩, none, some ⟨.fn, 1, 8, .nilFunc⟩, some ⟨.fn, 1, 8, .nilFunc⟩, some ⟨.fn, 1, 8, .nilFunc⟩, none, some ⟨.fn, 1, 8, .nilFunc⟩, some ⟨.ptr 108, 1, 8, .pointer none⟩, some ⟨.fn, 1, 8, .nilFunc⟩, some ⟨.fn, 1, 8, .nilFunc⟩, some ⟨.fn, 1, 8, .nilFunc⟩, some ⟨.fn, 1, 8, .nilFunc⟩, some ⟨.fn, 1, 8, .nilFunc⟩, some ⟨.fn, 1, 8, .nilFunc⟩, some ⟨.fn, 1, 8, .nilFunc⟩, some ⟨.fn, 1, 8, .nilFunc⟩, none, none, none, none, none, some ⟨.fn, 1, 8, .nilFunc⟩, none, none, some ⟨.fn, 1, 8, .nilFunc⟩, some ⟨.ptr 5, 1, 8, .pointer none⟩, none, none, some ⟨.struct [(0, 12), (1, 12), (2, 92), (3, 151), (4, 5), (5, 5), (6, 152), (7, 153), (8, 154), (9, 155), (10, 156)], 11, 48, .agg #[.int .u64 0, .int .u64 0, .int .u32 0, .int .u8 0, .int .u8 0, .int .u8 0, .int .u8 0, .nilFunc, .pointer none, .int .i32 0, .int .i32 0]⟩]
theorem tyok : TyOk Try.prog (tyD tyTab) := AllTy.ok ⟨ty1, ty2, ty3, ty4, ty5, ty9, ty12, ty17, ty21, ty22, ty23, ty24, ty26, ty27, ty28, ty29, ty30, ty31, ty33, ty34, ty35, ty37, ty38, ty39, ty40, ty41, ty42, ty43, ty44, ty45, ty46, ty47, ty48, ty49, ty50, ty51, ty52, ty53, ty54, ty55, ty56, ty57, ty58, ty59, ty61, ty62, ty63, ty64, ty65, ty66, ty67, ty68, ty69, ty70, ty71, ty72, ty73, ty74, ty75, ty76, ty77, ty78, ty79, ty80, ty81, ty82, ty83, ty84, ty86, ty87, ty88, ty90, ty91, ty92, ty93, ty94, ty95, ty96, ty97, ty98, ty99, ty100, ty101, ty102, ty103, ty105, ty106, ty107, ty108, ty109, ty110, ty111, ty112, ty113, ty114, ty115, ty116, ty117, ty118, ty119, ty120, ty121, ty122, ty123, ty124, ty125, ty126, ty127, ty129, ty131, ty132, ty133, ty135, ty136, ty137, ty138, ty139, ty140, ty141, ty142, ty143, ty144, ty150, ty153, ty154, ty157, trivial⟩
end Go.Proofs.Ytencikloakamfaa
