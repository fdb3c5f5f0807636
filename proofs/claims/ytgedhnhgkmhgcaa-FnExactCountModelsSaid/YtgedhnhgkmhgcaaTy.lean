/- WRITTEN BY A PROGRAM (gen_ty.py): the types that the walks look at. -/
import Derived.Test.YtgedhnhgkmhgcaaAb13
import Derived.Test.YtgedhnhgkmhgcaaChecked
import Derived.KernelRfl
namespace Go.Proofs.Ytgedhnhgkmhgcaa
open Go Go.Proofs.Ytgedhnhgkmhgcaa.Abs

theorem ty1 : TI.ok Try.prog 1 ⟨.fn, 1, 8, .nilFunc⟩ where
  desc := ⟨_, _, _, Try.underlying1⟩
  info := by kernel_rfl
  zsize := rfl
theorem ty2 : TI.ok Try.prog 2 ⟨.int .i64, 1, 8, .int .i64 0⟩ where
  desc := Try.underlying2
  info := by kernel_rfl
  zsize := rfl
theorem ty3 : TI.ok Try.prog 3 ⟨.int .i64, 1, 8, .int .i64 0⟩ where
  desc := Try.underlying3
  info := by kernel_rfl
  zsize := rfl
theorem ty4 : TI.ok Try.prog 4 ⟨.bool, 1, 1, .bool false⟩ where
  desc := Try.underlying4
  info := by kernel_rfl
  zsize := rfl
theorem ty5 : TI.ok Try.prog 5 ⟨.int .u8, 1, 1, .int .u8 0⟩ where
  desc := Try.underlying5
  info := by kernel_rfl
  zsize := rfl
theorem ty9 : TI.ok Try.prog 9 ⟨.str, 1, 16, .string ⟨#[]⟩⟩ where
  desc := Try.underlying9
  info := by kernel_rfl
  zsize := rfl
theorem ty12 : TI.ok Try.prog 12 ⟨.int .u64, 1, 8, .int .u64 0⟩ where
  desc := Try.underlying12
  info := by kernel_rfl
  zsize := rfl
theorem ty17 : TI.ok Try.prog 17 ⟨.ptr 147, 1, 8, .pointer none⟩ where
  desc := Try.underlying17
  info := by kernel_rfl
  zsize := rfl
theorem ty21 : TI.ok Try.prog 21 ⟨.int .i32, 1, 4, .int .i32 0⟩ where
  desc := Try.underlying21
  info := by kernel_rfl
  zsize := rfl
theorem ty22 : TI.ok Try.prog 22 ⟨.slice 30, 1, 24, .slice none 0 0⟩ where
  desc := Try.underlying22
  info := by kernel_rfl
  zsize := rfl
theorem ty23 : TI.ok Try.prog 23 ⟨.fn, 1, 8, .nilFunc⟩ where
  desc := ⟨_, _, _, Try.underlying23⟩
  info := by kernel_rfl
  zsize := rfl
theorem ty24 : TI.ok Try.prog 24 ⟨.fn, 1, 8, .nilFunc⟩ where
  desc := ⟨_, _, _, Try.underlying24⟩
  info := by kernel_rfl
  zsize := rfl
theorem ty25 : TI.ok Try.prog 25 ⟨.fn, 1, 8, .nilFunc⟩ where
  desc := ⟨_, _, _, Try.underlying25⟩
  info := by kernel_rfl
  zsize := rfl
theorem ty26 : TI.ok Try.prog 26 ⟨.fn, 1, 8, .nilFunc⟩ where
  desc := ⟨_, _, _, Try.underlying26⟩
  info := by kernel_rfl
  zsize := rfl
theorem ty28 : TI.ok Try.prog 28 ⟨.fn, 1, 8, .nilFunc⟩ where
  desc := ⟨_, _, _, Try.underlying28⟩
  info := by kernel_rfl
  zsize := rfl
theorem ty29 : TI.ok Try.prog 29 ⟨.fn, 1, 8, .nilFunc⟩ where
  desc := ⟨_, _, _, Try.underlying29⟩
  info := by kernel_rfl
  zsize := rfl
theorem ty30 : TI.ok Try.prog 30 ⟨.slice 3, 1, 24, .slice none 0 0⟩ where
  desc := Try.underlying30
  info := by kernel_rfl
  zsize := rfl
theorem ty32 : TI.ok Try.prog 32 ⟨.fn, 1, 8, .nilFunc⟩ where
  desc := ⟨_, _, _, Try.underlying32⟩
  info := by kernel_rfl
  zsize := rfl
theorem ty33 : TI.ok Try.prog 33 ⟨.fn, 1, 8, .nilFunc⟩ where
  desc := ⟨_, _, _, Try.underlying33⟩
  info := by kernel_rfl
  zsize := rfl
theorem ty34 : TI.ok Try.prog 34 ⟨.fn, 1, 8, .nilFunc⟩ where
  desc := ⟨_, _, _, Try.underlying34⟩
  info := by kernel_rfl
  zsize := rfl
theorem ty35 : TI.ok Try.prog 35 ⟨.slice 9, 1, 24, .slice none 0 0⟩ where
  desc := Try.underlying35
  info := by kernel_rfl
  zsize := rfl
theorem ty36 : TI.ok Try.prog 36 ⟨.struct [(0, 35), (1, 30), (2, 3)], 3, 56, .agg #[.slice none 0 0, .slice none 0 0, .int .i64 0]⟩ where
  desc := ⟨_, Try.underlying36, by kernel_rfl⟩
  info := by kernel_rfl
  zsize := rfl
theorem ty37 : TI.ok Try.prog 37 ⟨.struct [(0, 35), (1, 30), (2, 3)], 3, 56, .agg #[.slice none 0 0, .slice none 0 0, .int .i64 0]⟩ where
  desc := ⟨_, Try.underlying37, by kernel_rfl⟩
  info := by kernel_rfl
  zsize := rfl
theorem ty38 : TI.ok Try.prog 38 ⟨.slice 40, 1, 24, .slice none 0 0⟩ where
  desc := Try.underlying38
  info := by kernel_rfl
  zsize := rfl
theorem ty39 : TI.ok Try.prog 39 ⟨.struct [(0, 9), (1, 38)], 2, 40, .agg #[.string ⟨#[]⟩, .slice none 0 0]⟩ where
  desc := ⟨_, Try.underlying39, by kernel_rfl⟩
  info := by kernel_rfl
  zsize := rfl
theorem ty40 : TI.ok Try.prog 40 ⟨.struct [(0, 9), (1, 38)], 2, 40, .agg #[.string ⟨#[]⟩, .slice none 0 0]⟩ where
  desc := ⟨_, Try.underlying40, by kernel_rfl⟩
  info := by kernel_rfl
  zsize := rfl
theorem ty41 : TI.ok Try.prog 41 ⟨.fn, 1, 8, .nilFunc⟩ where
  desc := ⟨_, _, _, Try.underlying41⟩
  info := by kernel_rfl
  zsize := rfl
theorem ty42 : TI.ok Try.prog 42 ⟨.fn, 1, 8, .nilFunc⟩ where
  desc := ⟨_, _, _, Try.underlying42⟩
  info := by kernel_rfl
  zsize := rfl
theorem ty43 : TI.ok Try.prog 43 ⟨.fn, 1, 8, .nilFunc⟩ where
  desc := ⟨_, _, _, Try.underlying43⟩
  info := by kernel_rfl
  zsize := rfl
theorem ty44 : TI.ok Try.prog 44 ⟨.struct [(0, 35), (1, 30), (2, 3)], 3, 56, .agg #[.slice none 0 0, .slice none 0 0, .int .i64 0]⟩ where
  desc := ⟨_, Try.underlying44, by kernel_rfl⟩
  info := by kernel_rfl
  zsize := rfl
theorem ty45 : TI.ok Try.prog 45 ⟨.fn, 1, 8, .nilFunc⟩ where
  desc := ⟨_, _, _, Try.underlying45⟩
  info := by kernel_rfl
  zsize := rfl
theorem ty46 : TI.ok Try.prog 46 ⟨.slice 48, 1, 24, .slice none 0 0⟩ where
  desc := Try.underlying46
  info := by kernel_rfl
  zsize := rfl
theorem ty47 : TI.ok Try.prog 47 ⟨.struct [(0, 9), (1, 46)], 2, 40, .agg #[.string ⟨#[]⟩, .slice none 0 0]⟩ where
  desc := ⟨_, Try.underlying47, by kernel_rfl⟩
  info := by kernel_rfl
  zsize := rfl
theorem ty48 : TI.ok Try.prog 48 ⟨.struct [(0, 9), (1, 46)], 2, 40, .agg #[.string ⟨#[]⟩, .slice none 0 0]⟩ where
  desc := ⟨_, Try.underlying48, by kernel_rfl⟩
  info := by kernel_rfl
  zsize := rfl
theorem ty49 : TI.ok Try.prog 49 ⟨.fn, 1, 8, .nilFunc⟩ where
  desc := ⟨_, _, _, Try.underlying49⟩
  info := by kernel_rfl
  zsize := rfl
theorem ty50 : TI.ok Try.prog 50 ⟨.fn, 1, 8, .nilFunc⟩ where
  desc := ⟨_, _, _, Try.underlying50⟩
  info := by kernel_rfl
  zsize := rfl
theorem ty51 : TI.ok Try.prog 51 ⟨.fn, 1, 8, .nilFunc⟩ where
  desc := ⟨_, _, _, Try.underlying51⟩
  info := by kernel_rfl
  zsize := rfl
theorem ty52 : TI.ok Try.prog 52 ⟨.fn, 1, 8, .nilFunc⟩ where
  desc := ⟨_, _, _, Try.underlying52⟩
  info := by kernel_rfl
  zsize := rfl
theorem ty53 : TI.ok Try.prog 53 ⟨.fn, 1, 8, .nilFunc⟩ where
  desc := ⟨_, _, _, Try.underlying53⟩
  info := by kernel_rfl
  zsize := rfl
theorem ty54 : TI.ok Try.prog 54 ⟨.fn, 1, 8, .nilFunc⟩ where
  desc := ⟨_, _, _, Try.underlying54⟩
  info := by kernel_rfl
  zsize := rfl
theorem ty56 : TI.ok Try.prog 56 ⟨.fn, 1, 8, .nilFunc⟩ where
  desc := ⟨_, _, _, Try.underlying56⟩
  info := by kernel_rfl
  zsize := rfl
theorem ty57 : TI.ok Try.prog 57 ⟨.fn, 1, 8, .nilFunc⟩ where
  desc := ⟨_, _, _, Try.underlying57⟩
  info := by kernel_rfl
  zsize := rfl
theorem ty58 : TI.ok Try.prog 58 ⟨.fn, 1, 8, .nilFunc⟩ where
  desc := ⟨_, _, _, Try.underlying58⟩
  info := by kernel_rfl
  zsize := rfl
theorem ty59 : TI.ok Try.prog 59 ⟨.fn, 1, 8, .nilFunc⟩ where
  desc := ⟨_, _, _, Try.underlying59⟩
  info := by kernel_rfl
  zsize := rfl
theorem ty60 : TI.ok Try.prog 60 ⟨.fn, 1, 8, .nilFunc⟩ where
  desc := ⟨_, _, _, Try.underlying60⟩
  info := by kernel_rfl
  zsize := rfl
theorem ty61 : TI.ok Try.prog 61 ⟨.fn, 1, 8, .nilFunc⟩ where
  desc := ⟨_, _, _, Try.underlying61⟩
  info := by kernel_rfl
  zsize := rfl
theorem ty62 : TI.ok Try.prog 62 ⟨.fn, 1, 8, .nilFunc⟩ where
  desc := ⟨_, _, _, Try.underlying62⟩
  info := by kernel_rfl
  zsize := rfl
theorem ty63 : TI.ok Try.prog 63 ⟨.fn, 1, 8, .nilFunc⟩ where
  desc := ⟨_, _, _, Try.underlying63⟩
  info := by kernel_rfl
  zsize := rfl
theorem ty64 : TI.ok Try.prog 64 ⟨.fn, 1, 8, .nilFunc⟩ where
  desc := ⟨_, _, _, Try.underlying64⟩
  info := by kernel_rfl
  zsize := rfl
theorem ty65 : TI.ok Try.prog 65 ⟨.fn, 1, 8, .nilFunc⟩ where
  desc := ⟨_, _, _, Try.underlying65⟩
  info := by kernel_rfl
  zsize := rfl
theorem ty66 : TI.ok Try.prog 66 ⟨.fn, 1, 8, .nilFunc⟩ where
  desc := ⟨_, _, _, Try.underlying66⟩
  info := by kernel_rfl
  zsize := rfl
theorem ty67 : TI.ok Try.prog 67 ⟨.fn, 1, 8, .nilFunc⟩ where
  desc := ⟨_, _, _, Try.underlying67⟩
  info := by kernel_rfl
  zsize := rfl
theorem ty68 : TI.ok Try.prog 68 ⟨.fn, 1, 8, .nilFunc⟩ where
  desc := ⟨_, _, _, Try.underlying68⟩
  info := by kernel_rfl
  zsize := rfl
theorem ty69 : TI.ok Try.prog 69 ⟨.fn, 1, 8, .nilFunc⟩ where
  desc := ⟨_, _, _, Try.underlying69⟩
  info := by kernel_rfl
  zsize := rfl
theorem ty70 : TI.ok Try.prog 70 ⟨.fn, 1, 8, .nilFunc⟩ where
  desc := ⟨_, _, _, Try.underlying70⟩
  info := by kernel_rfl
  zsize := rfl
theorem ty71 : TI.ok Try.prog 71 ⟨.fn, 1, 8, .nilFunc⟩ where
  desc := ⟨_, _, _, Try.underlying71⟩
  info := by kernel_rfl
  zsize := rfl
theorem ty72 : TI.ok Try.prog 72 ⟨.fn, 1, 8, .nilFunc⟩ where
  desc := ⟨_, _, _, Try.underlying72⟩
  info := by kernel_rfl
  zsize := rfl
theorem ty73 : TI.ok Try.prog 73 ⟨.fn, 1, 8, .nilFunc⟩ where
  desc := ⟨_, _, _, Try.underlying73⟩
  info := by kernel_rfl
  zsize := rfl
theorem ty74 : TI.ok Try.prog 74 ⟨.fn, 1, 8, .nilFunc⟩ where
  desc := ⟨_, _, _, Try.underlying74⟩
  info := by kernel_rfl
  zsize := rfl
theorem ty75 : TI.ok Try.prog 75 ⟨.fn, 1, 8, .nilFunc⟩ where
  desc := ⟨_, _, _, Try.underlying75⟩
  info := by kernel_rfl
  zsize := rfl
theorem ty76 : TI.ok Try.prog 76 ⟨.fn, 1, 8, .nilFunc⟩ where
  desc := ⟨_, _, _, Try.underlying76⟩
  info := by kernel_rfl
  zsize := rfl
theorem ty77 : TI.ok Try.prog 77 ⟨.fn, 1, 8, .nilFunc⟩ where
  desc := ⟨_, _, _, Try.underlying77⟩
  info := by kernel_rfl
  zsize := rfl
theorem ty78 : TI.ok Try.prog 78 ⟨.fn, 1, 8, .nilFunc⟩ where
  desc := ⟨_, _, _, Try.underlying78⟩
  info := by kernel_rfl
  zsize := rfl
theorem ty79 : TI.ok Try.prog 79 ⟨.fn, 1, 8, .nilFunc⟩ where
  desc := ⟨_, _, _, Try.underlying79⟩
  info := by kernel_rfl
  zsize := rfl
theorem ty80 : TI.ok Try.prog 80 ⟨.fn, 1, 8, .nilFunc⟩ where
  desc := ⟨_, _, _, Try.underlying80⟩
  info := by kernel_rfl
  zsize := rfl
theorem ty81 : TI.ok Try.prog 81 ⟨.fn, 1, 8, .nilFunc⟩ where
  desc := ⟨_, _, _, Try.underlying81⟩
  info := by kernel_rfl
  zsize := rfl
theorem ty82 : TI.ok Try.prog 82 ⟨.fn, 1, 8, .nilFunc⟩ where
  desc := ⟨_, _, _, Try.underlying82⟩
  info := by kernel_rfl
  zsize := rfl
theorem ty83 : TI.ok Try.prog 83 ⟨.fn, 1, 8, .nilFunc⟩ where
  desc := ⟨_, _, _, Try.underlying83⟩
  info := by kernel_rfl
  zsize := rfl
theorem ty84 : TI.ok Try.prog 84 ⟨.fn, 1, 8, .nilFunc⟩ where
  desc := ⟨_, _, _, Try.underlying84⟩
  info := by kernel_rfl
  zsize := rfl
theorem ty85 : TI.ok Try.prog 85 ⟨.fn, 1, 8, .nilFunc⟩ where
  desc := ⟨_, _, _, Try.underlying85⟩
  info := by kernel_rfl
  zsize := rfl
theorem ty86 : TI.ok Try.prog 86 ⟨.fn, 1, 8, .nilFunc⟩ where
  desc := ⟨_, _, _, Try.underlying86⟩
  info := by kernel_rfl
  zsize := rfl
theorem ty87 : TI.ok Try.prog 87 ⟨.fn, 1, 8, .nilFunc⟩ where
  desc := ⟨_, _, _, Try.underlying87⟩
  info := by kernel_rfl
  zsize := rfl
theorem ty88 : TI.ok Try.prog 88 ⟨.fn, 1, 8, .nilFunc⟩ where
  desc := ⟨_, _, _, Try.underlying88⟩
  info := by kernel_rfl
  zsize := rfl
theorem ty89 : TI.ok Try.prog 89 ⟨.fn, 1, 8, .nilFunc⟩ where
  desc := ⟨_, _, _, Try.underlying89⟩
  info := by kernel_rfl
  zsize := rfl
theorem ty90 : TI.ok Try.prog 90 ⟨.fn, 1, 8, .nilFunc⟩ where
  desc := ⟨_, _, _, Try.underlying90⟩
  info := by kernel_rfl
  zsize := rfl
theorem ty91 : TI.ok Try.prog 91 ⟨.int .u64, 1, 8, .int .u64 0⟩ where
  desc := Try.underlying91
  info := by kernel_rfl
  zsize := rfl
theorem ty92 : TI.ok Try.prog 92 ⟨.fn, 1, 8, .nilFunc⟩ where
  desc := ⟨_, _, _, Try.underlying92⟩
  info := by kernel_rfl
  zsize := rfl
theorem ty93 : TI.ok Try.prog 93 ⟨.fn, 1, 8, .nilFunc⟩ where
  desc := ⟨_, _, _, Try.underlying93⟩
  info := by kernel_rfl
  zsize := rfl
theorem ty94 : TI.ok Try.prog 94 ⟨.fn, 1, 8, .nilFunc⟩ where
  desc := ⟨_, _, _, Try.underlying94⟩
  info := by kernel_rfl
  zsize := rfl
theorem ty95 : TI.ok Try.prog 95 ⟨.fn, 1, 8, .nilFunc⟩ where
  desc := ⟨_, _, _, Try.underlying95⟩
  info := by kernel_rfl
  zsize := rfl
theorem ty96 : TI.ok Try.prog 96 ⟨.fn, 1, 8, .nilFunc⟩ where
  desc := ⟨_, _, _, Try.underlying96⟩
  info := by kernel_rfl
  zsize := rfl
theorem ty97 : TI.ok Try.prog 97 ⟨.fn, 1, 8, .nilFunc⟩ where
  desc := ⟨_, _, _, Try.underlying97⟩
  info := by kernel_rfl
  zsize := rfl
theorem ty98 : TI.ok Try.prog 98 ⟨.fn, 1, 8, .nilFunc⟩ where
  desc := ⟨_, _, _, Try.underlying98⟩
  info := by kernel_rfl
  zsize := rfl
theorem ty99 : TI.ok Try.prog 99 ⟨.fn, 1, 8, .nilFunc⟩ where
  desc := ⟨_, _, _, Try.underlying99⟩
  info := by kernel_rfl
  zsize := rfl
theorem ty100 : TI.ok Try.prog 100 ⟨.fn, 1, 8, .nilFunc⟩ where
  desc := ⟨_, _, _, Try.underlying100⟩
  info := by kernel_rfl
  zsize := rfl
theorem ty102 : TI.ok Try.prog 102 ⟨.fn, 1, 8, .nilFunc⟩ where
  desc := ⟨_, _, _, Try.underlying102⟩
  info := by kernel_rfl
  zsize := rfl
theorem ty103 : TI.ok Try.prog 103 ⟨.fn, 1, 8, .nilFunc⟩ where
  desc := ⟨_, _, _, Try.underlying103⟩
  info := by kernel_rfl
  zsize := rfl
theorem ty104 : TI.ok Try.prog 104 ⟨.fn, 1, 8, .nilFunc⟩ where
  desc := ⟨_, _, _, Try.underlying104⟩
  info := by kernel_rfl
  zsize := rfl
theorem ty105 : TI.ok Try.prog 105 ⟨.fn, 1, 8, .nilFunc⟩ where
  desc := ⟨_, _, _, Try.underlying105⟩
  info := by kernel_rfl
  zsize := rfl
theorem ty107 : TI.ok Try.prog 107 ⟨.fn, 1, 8, .nilFunc⟩ where
  desc := ⟨_, _, _, Try.underlying107⟩
  info := by kernel_rfl
  zsize := rfl
theorem ty108 : TI.ok Try.prog 108 ⟨.fn, 1, 8, .nilFunc⟩ where
  desc := ⟨_, _, _, Try.underlying108⟩
  info := by kernel_rfl
  zsize := rfl
theorem ty109 : TI.ok Try.prog 109 ⟨.fn, 1, 8, .nilFunc⟩ where
  desc := ⟨_, _, _, Try.underlying109⟩
  info := by kernel_rfl
  zsize := rfl
theorem ty110 : TI.ok Try.prog 110 ⟨.fn, 1, 8, .nilFunc⟩ where
  desc := ⟨_, _, _, Try.underlying110⟩
  info := by kernel_rfl
  zsize := rfl
theorem ty111 : TI.ok Try.prog 111 ⟨.fn, 1, 8, .nilFunc⟩ where
  desc := ⟨_, _, _, Try.underlying111⟩
  info := by kernel_rfl
  zsize := rfl
theorem ty112 : TI.ok Try.prog 112 ⟨.int .i64, 1, 8, .int .i64 0⟩ where
  desc := Try.underlying112
  info := by kernel_rfl
  zsize := rfl
theorem ty114 : TI.ok Try.prog 114 ⟨.fn, 1, 8, .nilFunc⟩ where
  desc := ⟨_, _, _, Try.underlying114⟩
  info := by kernel_rfl
  zsize := rfl
theorem ty115 : TI.ok Try.prog 115 ⟨.fn, 1, 8, .nilFunc⟩ where
  desc := ⟨_, _, _, Try.underlying115⟩
  info := by kernel_rfl
  zsize := rfl
theorem ty116 : TI.ok Try.prog 116 ⟨.fn, 1, 8, .nilFunc⟩ where
  desc := ⟨_, _, _, Try.underlying116⟩
  info := by kernel_rfl
  zsize := rfl
theorem ty117 : TI.ok Try.prog 117 ⟨.fn, 1, 8, .nilFunc⟩ where
  desc := ⟨_, _, _, Try.underlying117⟩
  info := by kernel_rfl
  zsize := rfl
theorem ty118 : TI.ok Try.prog 118 ⟨.fn, 1, 8, .nilFunc⟩ where
  desc := ⟨_, _, _, Try.underlying118⟩
  info := by kernel_rfl
  zsize := rfl
theorem ty119 : TI.ok Try.prog 119 ⟨.int .u32, 1, 4, .int .u32 0⟩ where
  desc := Try.underlying119
  info := by kernel_rfl
  zsize := rfl
theorem ty120 : TI.ok Try.prog 120 ⟨.fn, 1, 8, .nilFunc⟩ where
  desc := ⟨_, _, _, Try.underlying120⟩
  info := by kernel_rfl
  zsize := rfl
theorem ty121 : TI.ok Try.prog 121 ⟨.int .u64, 1, 8, .int .u64 0⟩ where
  desc := Try.underlying121
  info := by kernel_rfl
  zsize := rfl
theorem ty122 : TI.ok Try.prog 122 ⟨.fn, 1, 8, .nilFunc⟩ where
  desc := ⟨_, _, _, Try.underlying122⟩
  info := by kernel_rfl
  zsize := rfl
theorem ty123 : TI.ok Try.prog 123 ⟨.fn, 1, 8, .nilFunc⟩ where
  desc := ⟨_, _, _, Try.underlying123⟩
  info := by kernel_rfl
  zsize := rfl
theorem ty124 : TI.ok Try.prog 124 ⟨.fn, 1, 8, .nilFunc⟩ where
  desc := ⟨_, _, _, Try.underlying124⟩
  info := by kernel_rfl
  zsize := rfl
theorem ty125 : TI.ok Try.prog 125 ⟨.int .u64, 1, 8, .int .u64 0⟩ where
  desc := Try.underlying125
  info := by kernel_rfl
  zsize := rfl
theorem ty126 : TI.ok Try.prog 126 ⟨.fn, 1, 8, .nilFunc⟩ where
  desc := ⟨_, _, _, Try.underlying126⟩
  info := by kernel_rfl
  zsize := rfl
theorem ty127 : TI.ok Try.prog 127 ⟨.fn, 1, 8, .nilFunc⟩ where
  desc := ⟨_, _, _, Try.underlying127⟩
  info := by kernel_rfl
  zsize := rfl
theorem ty128 : TI.ok Try.prog 128 ⟨.fn, 1, 8, .nilFunc⟩ where
  desc := ⟨_, _, _, Try.underlying128⟩
  info := by kernel_rfl
  zsize := rfl
theorem ty129 : TI.ok Try.prog 129 ⟨.ptr 3, 1, 8, .pointer none⟩ where
  desc := Try.underlying129
  info := by kernel_rfl
  zsize := rfl
theorem ty130 : TI.ok Try.prog 130 ⟨.fn, 1, 8, .nilFunc⟩ where
  desc := ⟨_, _, _, Try.underlying130⟩
  info := by kernel_rfl
  zsize := rfl
theorem ty131 : TI.ok Try.prog 131 ⟨.ptr 125, 1, 8, .pointer none⟩ where
  desc := Try.underlying131
  info := by kernel_rfl
  zsize := rfl
theorem ty132 : TI.ok Try.prog 132 ⟨.fn, 1, 8, .nilFunc⟩ where
  desc := ⟨_, _, _, Try.underlying132⟩
  info := by kernel_rfl
  zsize := rfl
theorem ty133 : TI.ok Try.prog 133 ⟨.fn, 1, 8, .nilFunc⟩ where
  desc := ⟨_, _, _, Try.underlying133⟩
  info := by kernel_rfl
  zsize := rfl
theorem ty139 : TI.ok Try.prog 139 ⟨.fn, 1, 8, .nilFunc⟩ where
  desc := ⟨_, _, _, Try.underlying139⟩
  info := by kernel_rfl
  zsize := rfl
theorem ty142 : TI.ok Try.prog 142 ⟨.fn, 1, 8, .nilFunc⟩ where
  desc := ⟨_, _, _, Try.underlying142⟩
  info := by kernel_rfl
  zsize := rfl
theorem ty143 : TI.ok Try.prog 143 ⟨.ptr 5, 1, 8, .pointer none⟩ where
  desc := Try.underlying143
  info := by kernel_rfl
  zsize := rfl
theorem ty146 : TI.ok Try.prog 146 ⟨.struct [(0, 12), (1, 12), (2, 119), (3, 140), (4, 5), (5, 5), (6, 141), (7, 142), (8, 143), (9, 144), (10, 145)], 11, 48, .agg #[.int .u64 0, .int .u64 0, .int .u32 0, .int .u8 0, .int .u8 0, .int .u8 0, .int .u8 0, .nilFunc, .pointer none, .int .i32 0, .int .i32 0]⟩ where
  desc := ⟨_, Try.underlying146, by kernel_rfl⟩
  info := by kernel_rfl
  zsize := rfl
def D : Nat → Option TI := fun t => match t with
  | 1 => some ⟨.fn, 1, 8, .nilFunc⟩
  | 2 => some ⟨.int .i64, 1, 8, .int .i64 0⟩
  | 3 => some ⟨.int .i64, 1, 8, .int .i64 0⟩
  | 4 => some ⟨.bool, 1, 1, .bool false⟩
  | 5 => some ⟨.int .u8, 1, 1, .int .u8 0⟩
  | 9 => some ⟨.str, 1, 16, .string ⟨#[]⟩⟩
  | 12 => some ⟨.int .u64, 1, 8, .int .u64 0⟩
  | 17 => some ⟨.ptr 147, 1, 8, .pointer none⟩
  | 21 => some ⟨.int .i32, 1, 4, .int .i32 0⟩
  | 22 => some ⟨.slice 30, 1, 24, .slice none 0 0⟩
  | 23 => some ⟨.fn, 1, 8, .nilFunc⟩
  | 24 => some ⟨.fn, 1, 8, .nilFunc⟩
  | 25 => some ⟨.fn, 1, 8, .nilFunc⟩
  | 26 => some ⟨.fn, 1, 8, .nilFunc⟩
  | 28 => some ⟨.fn, 1, 8, .nilFunc⟩
  | 29 => some ⟨.fn, 1, 8, .nilFunc⟩
  | 30 => some ⟨.slice 3, 1, 24, .slice none 0 0⟩
  | 32 => some ⟨.fn, 1, 8, .nilFunc⟩
  | 33 => some ⟨.fn, 1, 8, .nilFunc⟩
  | 34 => some ⟨.fn, 1, 8, .nilFunc⟩
  | 35 => some ⟨.slice 9, 1, 24, .slice none 0 0⟩
  | 36 => some ⟨.struct [(0, 35), (1, 30), (2, 3)], 3, 56, .agg #[.slice none 0 0, .slice none 0 0, .int .i64 0]⟩
  | 37 => some ⟨.struct [(0, 35), (1, 30), (2, 3)], 3, 56, .agg #[.slice none 0 0, .slice none 0 0, .int .i64 0]⟩
  | 38 => some ⟨.slice 40, 1, 24, .slice none 0 0⟩
  | 39 => some ⟨.struct [(0, 9), (1, 38)], 2, 40, .agg #[.string ⟨#[]⟩, .slice none 0 0]⟩
  | 40 => some ⟨.struct [(0, 9), (1, 38)], 2, 40, .agg #[.string ⟨#[]⟩, .slice none 0 0]⟩
  | 41 => some ⟨.fn, 1, 8, .nilFunc⟩
  | 42 => some ⟨.fn, 1, 8, .nilFunc⟩
  | 43 => some ⟨.fn, 1, 8, .nilFunc⟩
  | 44 => some ⟨.struct [(0, 35), (1, 30), (2, 3)], 3, 56, .agg #[.slice none 0 0, .slice none 0 0, .int .i64 0]⟩
  | 45 => some ⟨.fn, 1, 8, .nilFunc⟩
  | 46 => some ⟨.slice 48, 1, 24, .slice none 0 0⟩
  | 47 => some ⟨.struct [(0, 9), (1, 46)], 2, 40, .agg #[.string ⟨#[]⟩, .slice none 0 0]⟩
  | 48 => some ⟨.struct [(0, 9), (1, 46)], 2, 40, .agg #[.string ⟨#[]⟩, .slice none 0 0]⟩
  | 49 => some ⟨.fn, 1, 8, .nilFunc⟩
  | 50 => some ⟨.fn, 1, 8, .nilFunc⟩
  | 51 => some ⟨.fn, 1, 8, .nilFunc⟩
  | 52 => some ⟨.fn, 1, 8, .nilFunc⟩
  | 53 => some ⟨.fn, 1, 8, .nilFunc⟩
  | 54 => some ⟨.fn, 1, 8, .nilFunc⟩
  | 56 => some ⟨.fn, 1, 8, .nilFunc⟩
  | 57 => some ⟨.fn, 1, 8, .nilFunc⟩
  | 58 => some ⟨.fn, 1, 8, .nilFunc⟩
  | 59 => some ⟨.fn, 1, 8, .nilFunc⟩
  | 60 => some ⟨.fn, 1, 8, .nilFunc⟩
  | 61 => some ⟨.fn, 1, 8, .nilFunc⟩
  | 62 => some ⟨.fn, 1, 8, .nilFunc⟩
  | 63 => some ⟨.fn, 1, 8, .nilFunc⟩
  | 64 => some ⟨.fn, 1, 8, .nilFunc⟩
  | 65 => some ⟨.fn, 1, 8, .nilFunc⟩
  | 66 => some ⟨.fn, 1, 8, .nilFunc⟩
  | 67 => some ⟨.fn, 1, 8, .nilFunc⟩
  | 68 => some ⟨.fn, 1, 8, .nilFunc⟩
  | 69 => some ⟨.fn, 1, 8, .nilFunc⟩
  | 70 => some ⟨.fn, 1, 8, .nilFunc⟩
  | 71 => some ⟨.fn, 1, 8, .nilFunc⟩
  | 72 => some ⟨.fn, 1, 8, .nilFunc⟩
  | 73 => some ⟨.fn, 1, 8, .nilFunc⟩
  | 74 => some ⟨.fn, 1, 8, .nilFunc⟩
  | 75 => some ⟨.fn, 1, 8, .nilFunc⟩
  | 76 => some ⟨.fn, 1, 8, .nilFunc⟩
  | 77 => some ⟨.fn, 1, 8, .nilFunc⟩
  | 78 => some ⟨.fn, 1, 8, .nilFunc⟩
  | 79 => some ⟨.fn, 1, 8, .nilFunc⟩
  | 80 => some ⟨.fn, 1, 8, .nilFunc⟩
  | 81 => some ⟨.fn, 1, 8, .nilFunc⟩
  | 82 => some ⟨.fn, 1, 8, .nilFunc⟩
  | 83 => some ⟨.fn, 1, 8, .nilFunc⟩
  | 84 => some ⟨.fn, 1, 8, .nilFunc⟩
  | 85 => some ⟨.fn, 1, 8, .nilFunc⟩
  | 86 => some ⟨.fn, 1, 8, .nilFunc⟩
  | 87 => some ⟨.fn, 1, 8, .nilFunc⟩
  | 88 => some ⟨.fn, 1, 8, .nilFunc⟩
  | 89 => some ⟨.fn, 1, 8, .nilFunc⟩
  | 90 => some ⟨.fn, 1, 8, .nilFunc⟩
  | 91 => some ⟨.int .u64, 1, 8, .int .u64 0⟩
  | 92 => some ⟨.fn, 1, 8, .nilFunc⟩
  | 93 => some ⟨.fn, 1, 8, .nilFunc⟩
  | 94 => some ⟨.fn, 1, 8, .nilFunc⟩
  | 95 => some ⟨.fn, 1, 8, .nilFunc⟩
  | 96 => some ⟨.fn, 1, 8, .nilFunc⟩
  | 97 => some ⟨.fn, 1, 8, .nilFunc⟩
  | 98 => some ⟨.fn, 1, 8, .nilFunc⟩
  | 99 => some ⟨.fn, 1, 8, .nilFunc⟩
  | 100 => some ⟨.fn, 1, 8, .nilFunc⟩
  | 102 => some ⟨.fn, 1, 8, .nilFunc⟩
  | 103 => some ⟨.fn, 1, 8, .nilFunc⟩
  | 104 => some ⟨.fn, 1, 8, .nilFunc⟩
  | 105 => some ⟨.fn, 1, 8, .nilFunc⟩
  | 107 => some ⟨.fn, 1, 8, .nilFunc⟩
  | 108 => some ⟨.fn, 1, 8, .nilFunc⟩
  | 109 => some ⟨.fn, 1, 8, .nilFunc⟩
  | 110 => some ⟨.fn, 1, 8, .nilFunc⟩
  | 111 => some ⟨.fn, 1, 8, .nilFunc⟩
  | 112 => some ⟨.int .i64, 1, 8, .int .i64 0⟩
  | 114 => some ⟨.fn, 1, 8, .nilFunc⟩
  | 115 => some ⟨.fn, 1, 8, .nilFunc⟩
  | 116 => some ⟨.fn, 1, 8, .nilFunc⟩
  | 117 => some ⟨.fn, 1, 8, .nilFunc⟩
  | 118 => some ⟨.fn, 1, 8, .nilFunc⟩
  | 119 => some ⟨.int .u32, 1, 4, .int .u32 0⟩
  | 120 => some ⟨.fn, 1, 8, .nilFunc⟩
  | 121 => some ⟨.int .u64, 1, 8, .int .u64 0⟩
  | 122 => some ⟨.fn, 1, 8, .nilFunc⟩
  | 123 => some ⟨.fn, 1, 8, .nilFunc⟩
  | 124 => some ⟨.fn, 1, 8, .nilFunc⟩
  | 125 => some ⟨.int .u64, 1, 8, .int .u64 0⟩
  | 126 => some ⟨.fn, 1, 8, .nilFunc⟩
  | 127 => some ⟨.fn, 1, 8, .nilFunc⟩
  | 128 => some ⟨.fn, 1, 8, .nilFunc⟩
  | 129 => some ⟨.ptr 3, 1, 8, .pointer none⟩
  | 130 => some ⟨.fn, 1, 8, .nilFunc⟩
  | 131 => some ⟨.ptr 125, 1, 8, .pointer none⟩
  | 132 => some ⟨.fn, 1, 8, .nilFunc⟩
  | 133 => some ⟨.fn, 1, 8, .nilFunc⟩
  | 139 => some ⟨.fn, 1, 8, .nilFunc⟩
  | 142 => some ⟨.fn, 1, 8, .nilFunc⟩
  | 143 => some ⟨.ptr 5, 1, 8, .pointer none⟩
  | 146 => some ⟨.struct [(0, 12), (1, 12), (2, 119), (3, 140), (4, 5), (5, 5), (6, 141), (7, 142), (8, 143), (9, 144), (10, 145)], 11, 48, .agg #[.int .u64 0, .int .u64 0, .int .u32 0, .int .u8 0, .int .u8 0, .int .u8 0, .int .u8 0, .nilFunc, .pointer none, .int .i32 0, .int .i32 0]⟩
  | _ => none
@[simp] theorem D_1 : D 1 = some ⟨.fn, 1, 8, .nilFunc⟩ := rfl
@[simp] theorem D_2 : D 2 = some ⟨.int .i64, 1, 8, .int .i64 0⟩ := rfl
@[simp] theorem D_3 : D 3 = some ⟨.int .i64, 1, 8, .int .i64 0⟩ := rfl
@[simp] theorem D_4 : D 4 = some ⟨.bool, 1, 1, .bool false⟩ := rfl
@[simp] theorem D_5 : D 5 = some ⟨.int .u8, 1, 1, .int .u8 0⟩ := rfl
@[simp] theorem D_9 : D 9 = some ⟨.str, 1, 16, .string ⟨#[]⟩⟩ := rfl
@[simp] theorem D_12 : D 12 = some ⟨.int .u64, 1, 8, .int .u64 0⟩ := rfl
@[simp] theorem D_17 : D 17 = some ⟨.ptr 147, 1, 8, .pointer none⟩ := rfl
@[simp] theorem D_21 : D 21 = some ⟨.int .i32, 1, 4, .int .i32 0⟩ := rfl
@[simp] theorem D_22 : D 22 = some ⟨.slice 30, 1, 24, .slice none 0 0⟩ := rfl
@[simp] theorem D_23 : D 23 = some ⟨.fn, 1, 8, .nilFunc⟩ := rfl
@[simp] theorem D_24 : D 24 = some ⟨.fn, 1, 8, .nilFunc⟩ := rfl
@[simp] theorem D_25 : D 25 = some ⟨.fn, 1, 8, .nilFunc⟩ := rfl
@[simp] theorem D_26 : D 26 = some ⟨.fn, 1, 8, .nilFunc⟩ := rfl
@[simp] theorem D_28 : D 28 = some ⟨.fn, 1, 8, .nilFunc⟩ := rfl
@[simp] theorem D_29 : D 29 = some ⟨.fn, 1, 8, .nilFunc⟩ := rfl
@[simp] theorem D_30 : D 30 = some ⟨.slice 3, 1, 24, .slice none 0 0⟩ := rfl
@[simp] theorem D_32 : D 32 = some ⟨.fn, 1, 8, .nilFunc⟩ := rfl
@[simp] theorem D_33 : D 33 = some ⟨.fn, 1, 8, .nilFunc⟩ := rfl
@[simp] theorem D_34 : D 34 = some ⟨.fn, 1, 8, .nilFunc⟩ := rfl
@[simp] theorem D_35 : D 35 = some ⟨.slice 9, 1, 24, .slice none 0 0⟩ := rfl
@[simp] theorem D_36 : D 36 = some ⟨.struct [(0, 35), (1, 30), (2, 3)], 3, 56, .agg #[.slice none 0 0, .slice none 0 0, .int .i64 0]⟩ := rfl
@[simp] theorem D_37 : D 37 = some ⟨.struct [(0, 35), (1, 30), (2, 3)], 3, 56, .agg #[.slice none 0 0, .slice none 0 0, .int .i64 0]⟩ := rfl
@[simp] theorem D_38 : D 38 = some ⟨.slice 40, 1, 24, .slice none 0 0⟩ := rfl
@[simp] theorem D_39 : D 39 = some ⟨.struct [(0, 9), (1, 38)], 2, 40, .agg #[.string ⟨#[]⟩, .slice none 0 0]⟩ := rfl
@[simp] theorem D_40 : D 40 = some ⟨.struct [(0, 9), (1, 38)], 2, 40, .agg #[.string ⟨#[]⟩, .slice none 0 0]⟩ := rfl
@[simp] theorem D_41 : D 41 = some ⟨.fn, 1, 8, .nilFunc⟩ := rfl
@[simp] theorem D_42 : D 42 = some ⟨.fn, 1, 8, .nilFunc⟩ := rfl
@[simp] theorem D_43 : D 43 = some ⟨.fn, 1, 8, .nilFunc⟩ := rfl
@[simp] theorem D_44 : D 44 = some ⟨.struct [(0, 35), (1, 30), (2, 3)], 3, 56, .agg #[.slice none 0 0, .slice none 0 0, .int .i64 0]⟩ := rfl
@[simp] theorem D_45 : D 45 = some ⟨.fn, 1, 8, .nilFunc⟩ := rfl
@[simp] theorem D_46 : D 46 = some ⟨.slice 48, 1, 24, .slice none 0 0⟩ := rfl
@[simp] theorem D_47 : D 47 = some ⟨.struct [(0, 9), (1, 46)], 2, 40, .agg #[.string ⟨#[]⟩, .slice none 0 0]⟩ := rfl
@[simp] theorem D_48 : D 48 = some ⟨.struct [(0, 9), (1, 46)], 2, 40, .agg #[.string ⟨#[]⟩, .slice none 0 0]⟩ := rfl
@[simp] theorem D_49 : D 49 = some ⟨.fn, 1, 8, .nilFunc⟩ := rfl
@[simp] theorem D_50 : D 50 = some ⟨.fn, 1, 8, .nilFunc⟩ := rfl
@[simp] theorem D_51 : D 51 = some ⟨.fn, 1, 8, .nilFunc⟩ := rfl
@[simp] theorem D_52 : D 52 = some ⟨.fn, 1, 8, .nilFunc⟩ := rfl
@[simp] theorem D_53 : D 53 = some ⟨.fn, 1, 8, .nilFunc⟩ := rfl
@[simp] theorem D_54 : D 54 = some ⟨.fn, 1, 8, .nilFunc⟩ := rfl
@[simp] theorem D_56 : D 56 = some ⟨.fn, 1, 8, .nilFunc⟩ := rfl
@[simp] theorem D_57 : D 57 = some ⟨.fn, 1, 8, .nilFunc⟩ := rfl
@[simp] theorem D_58 : D 58 = some ⟨.fn, 1, 8, .nilFunc⟩ := rfl
@[simp] theorem D_59 : D 59 = some ⟨.fn, 1, 8, .nilFunc⟩ := rfl
@[simp] theorem D_60 : D 60 = some ⟨.fn, 1, 8, .nilFunc⟩ := rfl
@[simp] theorem D_61 : D 61 = some ⟨.fn, 1, 8, .nilFunc⟩ := rfl
@[simp] theorem D_62 : D 62 = some ⟨.fn, 1, 8, .nilFunc⟩ := rfl
@[simp] theorem D_63 : D 63 = some ⟨.fn, 1, 8, .nilFunc⟩ := rfl
@[simp] theorem D_64 : D 64 = some ⟨.fn, 1, 8, .nilFunc⟩ := rfl
@[simp] theorem D_65 : D 65 = some ⟨.fn, 1, 8, .nilFunc⟩ := rfl
@[simp] theorem D_66 : D 66 = some ⟨.fn, 1, 8, .nilFunc⟩ := rfl
@[simp] theorem D_67 : D 67 = some ⟨.fn, 1, 8, .nilFunc⟩ := rfl
@[simp] theorem D_68 : D 68 = some ⟨.fn, 1, 8, .nilFunc⟩ := rfl
@[simp] theorem D_69 : D 69 = some ⟨.fn, 1, 8, .nilFunc⟩ := rfl
@[simp] theorem D_70 : D 70 = some ⟨.fn, 1, 8, .nilFunc⟩ := rfl
@[simp] theorem D_71 : D 71 = some ⟨.fn, 1, 8, .nilFunc⟩ := rfl
@[simp] theorem D_72 : D 72 = some ⟨.fn, 1, 8, .nilFunc⟩ := rfl
@[simp] theorem D_73 : D 73 = some ⟨.fn, 1, 8, .nilFunc⟩ := rfl
@[simp] theorem D_74 : D 74 = some ⟨.fn, 1, 8, .nilFunc⟩ := rfl
@[simp] theorem D_75 : D 75 = some ⟨.fn, 1, 8, .nilFunc⟩ := rfl
@[simp] theorem D_76 : D 76 = some ⟨.fn, 1, 8, .nilFunc⟩ := rfl
@[simp] theorem D_77 : D 77 = some ⟨.fn, 1, 8, .nilFunc⟩ := rfl
@[simp] theorem D_78 : D 78 = some ⟨.fn, 1, 8, .nilFunc⟩ := rfl
@[simp] theorem D_79 : D 79 = some ⟨.fn, 1, 8, .nilFunc⟩ := rfl
@[simp] theorem D_80 : D 80 = some ⟨.fn, 1, 8, .nilFunc⟩ := rfl
@[simp] theorem D_81 : D 81 = some ⟨.fn, 1, 8, .nilFunc⟩ := rfl
@[simp] theorem D_82 : D 82 = some ⟨.fn, 1, 8, .nilFunc⟩ := rfl
@[simp] theorem D_83 : D 83 = some ⟨.fn, 1, 8, .nilFunc⟩ := rfl
@[simp] theorem D_84 : D 84 = some ⟨.fn, 1, 8, .nilFunc⟩ := rfl
@[simp] theorem D_85 : D 85 = some ⟨.fn, 1, 8, .nilFunc⟩ := rfl
@[simp] theorem D_86 : D 86 = some ⟨.fn, 1, 8, .nilFunc⟩ := rfl
@[simp] theorem D_87 : D 87 = some ⟨.fn, 1, 8, .nilFunc⟩ := rfl
@[simp] theorem D_88 : D 88 = some ⟨.fn, 1, 8, .nilFunc⟩ := rfl
@[simp] theorem D_89 : D 89 = some ⟨.fn, 1, 8, .nilFunc⟩ := rfl
@[simp] theorem D_90 : D 90 = some ⟨.fn, 1, 8, .nilFunc⟩ := rfl
@[simp] theorem D_91 : D 91 = some ⟨.int .u64, 1, 8, .int .u64 0⟩ := rfl
@[simp] theorem D_92 : D 92 = some ⟨.fn, 1, 8, .nilFunc⟩ := rfl
@[simp] theorem D_93 : D 93 = some ⟨.fn, 1, 8, .nilFunc⟩ := rfl
@[simp] theorem D_94 : D 94 = some ⟨.fn, 1, 8, .nilFunc⟩ := rfl
@[simp] theorem D_95 : D 95 = some ⟨.fn, 1, 8, .nilFunc⟩ := rfl
@[simp] theorem D_96 : D 96 = some ⟨.fn, 1, 8, .nilFunc⟩ := rfl
@[simp] theorem D_97 : D 97 = some ⟨.fn, 1, 8, .nilFunc⟩ := rfl
@[simp] theorem D_98 : D 98 = some ⟨.fn, 1, 8, .nilFunc⟩ := rfl
@[simp] theorem D_99 : D 99 = some ⟨.fn, 1, 8, .nilFunc⟩ := rfl
@[simp] theorem D_100 : D 100 = some ⟨.fn, 1, 8, .nilFunc⟩ := rfl
@[simp] theorem D_102 : D 102 = some ⟨.fn, 1, 8, .nilFunc⟩ := rfl
@[simp] theorem D_103 : D 103 = some ⟨.fn, 1, 8, .nilFunc⟩ := rfl
@[simp] theorem D_104 : D 104 = some ⟨.fn, 1, 8, .nilFunc⟩ := rfl
@[simp] theorem D_105 : D 105 = some ⟨.fn, 1, 8, .nilFunc⟩ := rfl
@[simp] theorem D_107 : D 107 = some ⟨.fn, 1, 8, .nilFunc⟩ := rfl
@[simp] theorem D_108 : D 108 = some ⟨.fn, 1, 8, .nilFunc⟩ := rfl
@[simp] theorem D_109 : D 109 = some ⟨.fn, 1, 8, .nilFunc⟩ := rfl
@[simp] theorem D_110 : D 110 = some ⟨.fn, 1, 8, .nilFunc⟩ := rfl
@[simp] theorem D_111 : D 111 = some ⟨.fn, 1, 8, .nilFunc⟩ := rfl
@[simp] theorem D_112 : D 112 = some ⟨.int .i64, 1, 8, .int .i64 0⟩ := rfl
@[simp] theorem D_114 : D 114 = some ⟨.fn, 1, 8, .nilFunc⟩ := rfl
@[simp] theorem D_115 : D 115 = some ⟨.fn, 1, 8, .nilFunc⟩ := rfl
@[simp] theorem D_116 : D 116 = some ⟨.fn, 1, 8, .nilFunc⟩ := rfl
@[simp] theorem D_117 : D 117 = some ⟨.fn, 1, 8, .nilFunc⟩ := rfl
@[simp] theorem D_118 : D 118 = some ⟨.fn, 1, 8, .nilFunc⟩ := rfl
@[simp] theorem D_119 : D 119 = some ⟨.int .u32, 1, 4, .int .u32 0⟩ := rfl
@[simp] theorem D_120 : D 120 = some ⟨.fn, 1, 8, .nilFunc⟩ := rfl
@[simp] theorem D_121 : D 121 = some ⟨.int .u64, 1, 8, .int .u64 0⟩ := rfl
@[simp] theorem D_122 : D 122 = some ⟨.fn, 1, 8, .nilFunc⟩ := rfl
@[simp] theorem D_123 : D 123 = some ⟨.fn, 1, 8, .nilFunc⟩ := rfl
@[simp] theorem D_124 : D 124 = some ⟨.fn, 1, 8, .nilFunc⟩ := rfl
@[simp] theorem D_125 : D 125 = some ⟨.int .u64, 1, 8, .int .u64 0⟩ := rfl
@[simp] theorem D_126 : D 126 = some ⟨.fn, 1, 8, .nilFunc⟩ := rfl
@[simp] theorem D_127 : D 127 = some ⟨.fn, 1, 8, .nilFunc⟩ := rfl
@[simp] theorem D_128 : D 128 = some ⟨.fn, 1, 8, .nilFunc⟩ := rfl
@[simp] theorem D_129 : D 129 = some ⟨.ptr 3, 1, 8, .pointer none⟩ := rfl
@[simp] theorem D_130 : D 130 = some ⟨.fn, 1, 8, .nilFunc⟩ := rfl
@[simp] theorem D_131 : D 131 = some ⟨.ptr 125, 1, 8, .pointer none⟩ := rfl
@[simp] theorem D_132 : D 132 = some ⟨.fn, 1, 8, .nilFunc⟩ := rfl
@[simp] theorem D_133 : D 133 = some ⟨.fn, 1, 8, .nilFunc⟩ := rfl
@[simp] theorem D_139 : D 139 = some ⟨.fn, 1, 8, .nilFunc⟩ := rfl
@[simp] theorem D_142 : D 142 = some ⟨.fn, 1, 8, .nilFunc⟩ := rfl
@[simp] theorem D_143 : D 143 = some ⟨.ptr 5, 1, 8, .pointer none⟩ := rfl
@[simp] theorem D_146 : D 146 = some ⟨.struct [(0, 12), (1, 12), (2, 119), (3, 140), (4, 5), (5, 5), (6, 141), (7, 142), (8, 143), (9, 144), (10, 145)], 11, 48, .agg #[.int .u64 0, .int .u64 0, .int .u32 0, .int .u8 0, .int .u8 0, .int .u8 0, .int .u8 0, .nilFunc, .pointer none, .int .i32 0, .int .i32 0]⟩ := rfl
theorem tyok : TyOk Try.prog D := by
  intro t i h
  unfold D at h
  split at h
  · cases h; exact ty1
  · cases h; exact ty2
  · cases h; exact ty3
  · cases h; exact ty4
  · cases h; exact ty5
  · cases h; exact ty9
  · cases h; exact ty12
  · cases h; exact ty17
  · cases h; exact ty21
  · cases h; exact ty22
  · cases h; exact ty23
  · cases h; exact ty24
  · cases h; exact ty25
  · cases h; exact ty26
  · cases h; exact ty28
  · cases h; exact ty29
  · cases h; exact ty30
  · cases h; exact ty32
  · cases h; exact ty33
  · cases h; exact ty34
  · cases h; exact ty35
  · cases h; exact ty36
  · cases h; exact ty37
  · cases h; exact ty38
  · cases h; exact ty39
  · cases h; exact ty40
  · cases h; exact ty41
  · cases h; exact ty42
  · cases h; exact ty43
  · cases h; exact ty44
  · cases h; exact ty45
  · cases h; exact ty46
  · cases h; exact ty47
  · cases h; exact ty48
  · cases h; exact ty49
  · cases h; exact ty50
  · cases h; exact ty51
  · cases h; exact ty52
  · cases h; exact ty53
  · cases h; exact ty54
  · cases h; exact ty56
  · cases h; exact ty57
  · cases h; exact ty58
  · cases h; exact ty59
  · cases h; exact ty60
  · cases h; exact ty61
  · cases h; exact ty62
  · cases h; exact ty63
  · cases h; exact ty64
  · cases h; exact ty65
  · cases h; exact ty66
  · cases h; exact ty67
  · cases h; exact ty68
  · cases h; exact ty69
  · cases h; exact ty70
  · cases h; exact ty71
  · cases h; exact ty72
  · cases h; exact ty73
  · cases h; exact ty74
  · cases h; exact ty75
  · cases h; exact ty76
  · cases h; exact ty77
  · cases h; exact ty78
  · cases h; exact ty79
  · cases h; exact ty80
  · cases h; exact ty81
  · cases h; exact ty82
  · cases h; exact ty83
  · cases h; exact ty84
  · cases h; exact ty85
  · cases h; exact ty86
  · cases h; exact ty87
  · cases h; exact ty88
  · cases h; exact ty89
  · cases h; exact ty90
  · cases h; exact ty91
  · cases h; exact ty92
  · cases h; exact ty93
  · cases h; exact ty94
  · cases h; exact ty95
  · cases h; exact ty96
  · cases h; exact ty97
  · cases h; exact ty98
  · cases h; exact ty99
  · cases h; exact ty100
  · cases h; exact ty102
  · cases h; exact ty103
  · cases h; exact ty104
  · cases h; exact ty105
  · cases h; exact ty107
  · cases h; exact ty108
  · cases h; exact ty109
  · cases h; exact ty110
  · cases h; exact ty111
  · cases h; exact ty112
  · cases h; exact ty114
  · cases h; exact ty115
  · cases h; exact ty116
  · cases h; exact ty117
  · cases h; exact ty118
  · cases h; exact ty119
  · cases h; exact ty120
  · cases h; exact ty121
  · cases h; exact ty122
  · cases h; exact ty123
  · cases h; exact ty124
  · cases h; exact ty125
  · cases h; exact ty126
  · cases h; exact ty127
  · cases h; exact ty128
  · cases h; exact ty129
  · cases h; exact ty130
  · cases h; exact ty131
  · cases h; exact ty132
  · cases h; exact ty133
  · cases h; exact ty139
  · cases h; exact ty142
  · cases h; exact ty143
  · cases h; exact ty146
  · cases h
end Go.Proofs.Ytgedhnhgkmhgcaa
