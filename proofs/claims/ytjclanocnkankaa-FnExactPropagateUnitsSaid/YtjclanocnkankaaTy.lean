/- WRITTEN BY A PROGRAM (gen_ty.py): the types that the walks look at. -/
import Derived.Test.YtjclanocnkankaaE15
import Derived.Test.YtjclanocnkankaaChecked
import Derived.KernelRfl
namespace Go.Proofs.Ytjclanocnkankaa
open Go Go.Proofs.Ytjclanocnkankaa.Abs

theorem ty1 : TI.ok Try.prog 1 ⟨.fn, 1, 8, .nilFunc⟩ := ⟨⟨_, _, _, Try.underlying1⟩, by kernel_rfl, rfl, fun _ => rfl⟩
theorem ty2 : TI.ok Try.prog 2 ⟨.int .i64, 1, 8, .int .i64 0⟩ := ⟨Try.underlying2, by kernel_rfl, rfl, fun _ => rfl⟩
theorem ty3 : TI.ok Try.prog 3 ⟨.int .i64, 1, 8, .int .i64 0⟩ := ⟨Try.underlying3, by kernel_rfl, rfl, fun _ => rfl⟩
theorem ty4 : TI.ok Try.prog 4 ⟨.bool, 1, 1, .bool false⟩ := ⟨Try.underlying4, by kernel_rfl, rfl, fun _ => rfl⟩
theorem ty5 : TI.ok Try.prog 5 ⟨.int .u8, 1, 1, .int .u8 0⟩ := ⟨Try.underlying5, by kernel_rfl, rfl, fun _ => rfl⟩
theorem ty9 : TI.ok Try.prog 9 ⟨.str, 1, 16, .string ⟨#[]⟩⟩ := ⟨Try.underlying9, by kernel_rfl, rfl, fun _ => rfl⟩
theorem ty12 : TI.ok Try.prog 12 ⟨.int .u64, 1, 8, .int .u64 0⟩ := ⟨Try.underlying12, by kernel_rfl, rfl, fun _ => rfl⟩
theorem ty17 : TI.ok Try.prog 17 ⟨.ptr 97, 1, 8, .pointer none⟩ := ⟨Try.underlying17, by kernel_rfl, rfl, fun _ => rfl⟩
theorem ty21 : TI.ok Try.prog 21 ⟨.int .i32, 1, 4, .int .i32 0⟩ := ⟨Try.underlying21, by kernel_rfl, rfl, fun _ => rfl⟩
theorem ty22 : TI.ok Try.prog 22 ⟨.slice 24, 1, 24, .slice none 0 0⟩ := ⟨Try.underlying22, by kernel_rfl, rfl, fun _ => rfl⟩
theorem ty23 : TI.ok Try.prog 23 ⟨.fn, 1, 8, .nilFunc⟩ := ⟨⟨_, _, _, Try.underlying23⟩, by kernel_rfl, rfl, fun _ => rfl⟩
theorem ty24 : TI.ok Try.prog 24 ⟨.slice 3, 1, 24, .slice none 0 0⟩ := ⟨Try.underlying24, by kernel_rfl, rfl, fun _ => rfl⟩
theorem ty26 : TI.ok Try.prog 26 ⟨.fn, 1, 8, .nilFunc⟩ := ⟨⟨_, _, _, Try.underlying26⟩, by kernel_rfl, rfl, fun _ => rfl⟩
theorem ty27 : TI.ok Try.prog 27 ⟨.fn, 1, 8, .nilFunc⟩ := ⟨⟨_, _, _, Try.underlying27⟩, by kernel_rfl, rfl, fun _ => rfl⟩
theorem ty28 : TI.ok Try.prog 28 ⟨.fn, 1, 8, .nilFunc⟩ := ⟨⟨_, _, _, Try.underlying28⟩, by kernel_rfl, rfl, fun _ => rfl⟩
theorem ty29 : TI.ok Try.prog 29 ⟨.fn, 1, 8, .nilFunc⟩ := ⟨⟨_, _, _, Try.underlying29⟩, by kernel_rfl, rfl, fun _ => rfl⟩
theorem ty30 : TI.ok Try.prog 30 ⟨.fn, 1, 8, .nilFunc⟩ := ⟨⟨_, _, _, Try.underlying30⟩, by kernel_rfl, rfl, fun _ => rfl⟩
theorem ty31 : TI.ok Try.prog 31 ⟨.fn, 1, 8, .nilFunc⟩ := ⟨⟨_, _, _, Try.underlying31⟩, by kernel_rfl, rfl, fun _ => rfl⟩
theorem ty33 : TI.ok Try.prog 33 ⟨.fn, 1, 8, .nilFunc⟩ := ⟨⟨_, _, _, Try.underlying33⟩, by kernel_rfl, rfl, fun _ => rfl⟩
theorem ty34 : TI.ok Try.prog 34 ⟨.fn, 1, 8, .nilFunc⟩ := ⟨⟨_, _, _, Try.underlying34⟩, by kernel_rfl, rfl, fun _ => rfl⟩
theorem ty35 : TI.ok Try.prog 35 ⟨.fn, 1, 8, .nilFunc⟩ := ⟨⟨_, _, _, Try.underlying35⟩, by kernel_rfl, rfl, fun _ => rfl⟩
theorem ty37 : TI.ok Try.prog 37 ⟨.fn, 1, 8, .nilFunc⟩ := ⟨⟨_, _, _, Try.underlying37⟩, by kernel_rfl, rfl, fun _ => rfl⟩
theorem ty38 : TI.ok Try.prog 38 ⟨.fn, 1, 8, .nilFunc⟩ := ⟨⟨_, _, _, Try.underlying38⟩, by kernel_rfl, rfl, fun _ => rfl⟩
theorem ty39 : TI.ok Try.prog 39 ⟨.fn, 1, 8, .nilFunc⟩ := ⟨⟨_, _, _, Try.underlying39⟩, by kernel_rfl, rfl, fun _ => rfl⟩
theorem ty40 : TI.ok Try.prog 40 ⟨.fn, 1, 8, .nilFunc⟩ := ⟨⟨_, _, _, Try.underlying40⟩, by kernel_rfl, rfl, fun _ => rfl⟩
theorem ty41 : TI.ok Try.prog 41 ⟨.fn, 1, 8, .nilFunc⟩ := ⟨⟨_, _, _, Try.underlying41⟩, by kernel_rfl, rfl, fun _ => rfl⟩
theorem ty42 : TI.ok Try.prog 42 ⟨.fn, 1, 8, .nilFunc⟩ := ⟨⟨_, _, _, Try.underlying42⟩, by kernel_rfl, rfl, fun _ => rfl⟩
theorem ty43 : TI.ok Try.prog 43 ⟨.fn, 1, 8, .nilFunc⟩ := ⟨⟨_, _, _, Try.underlying43⟩, by kernel_rfl, rfl, fun _ => rfl⟩
theorem ty44 : TI.ok Try.prog 44 ⟨.fn, 1, 8, .nilFunc⟩ := ⟨⟨_, _, _, Try.underlying44⟩, by kernel_rfl, rfl, fun _ => rfl⟩
theorem ty45 : TI.ok Try.prog 45 ⟨.fn, 1, 8, .nilFunc⟩ := ⟨⟨_, _, _, Try.underlying45⟩, by kernel_rfl, rfl, fun _ => rfl⟩
theorem ty46 : TI.ok Try.prog 46 ⟨.fn, 1, 8, .nilFunc⟩ := ⟨⟨_, _, _, Try.underlying46⟩, by kernel_rfl, rfl, fun _ => rfl⟩
theorem ty47 : TI.ok Try.prog 47 ⟨.fn, 1, 8, .nilFunc⟩ := ⟨⟨_, _, _, Try.underlying47⟩, by kernel_rfl, rfl, fun _ => rfl⟩
theorem ty48 : TI.ok Try.prog 48 ⟨.fn, 1, 8, .nilFunc⟩ := ⟨⟨_, _, _, Try.underlying48⟩, by kernel_rfl, rfl, fun _ => rfl⟩
theorem ty50 : TI.ok Try.prog 50 ⟨.fn, 1, 8, .nilFunc⟩ := ⟨⟨_, _, _, Try.underlying50⟩, by kernel_rfl, rfl, fun _ => rfl⟩
theorem ty51 : TI.ok Try.prog 51 ⟨.fn, 1, 8, .nilFunc⟩ := ⟨⟨_, _, _, Try.underlying51⟩, by kernel_rfl, rfl, fun _ => rfl⟩
theorem ty52 : TI.ok Try.prog 52 ⟨.fn, 1, 8, .nilFunc⟩ := ⟨⟨_, _, _, Try.underlying52⟩, by kernel_rfl, rfl, fun _ => rfl⟩
theorem ty53 : TI.ok Try.prog 53 ⟨.fn, 1, 8, .nilFunc⟩ := ⟨⟨_, _, _, Try.underlying53⟩, by kernel_rfl, rfl, fun _ => rfl⟩
theorem ty54 : TI.ok Try.prog 54 ⟨.fn, 1, 8, .nilFunc⟩ := ⟨⟨_, _, _, Try.underlying54⟩, by kernel_rfl, rfl, fun _ => rfl⟩
theorem ty55 : TI.ok Try.prog 55 ⟨.fn, 1, 8, .nilFunc⟩ := ⟨⟨_, _, _, Try.underlying55⟩, by kernel_rfl, rfl, fun _ => rfl⟩
theorem ty56 : TI.ok Try.prog 56 ⟨.fn, 1, 8, .nilFunc⟩ := ⟨⟨_, _, _, Try.underlying56⟩, by kernel_rfl, rfl, fun _ => rfl⟩
theorem ty57 : TI.ok Try.prog 57 ⟨.int .u64, 1, 8, .int .u64 0⟩ := ⟨Try.underlying57, by kernel_rfl, rfl, fun _ => rfl⟩
theorem ty58 : TI.ok Try.prog 58 ⟨.fn, 1, 8, .nilFunc⟩ := ⟨⟨_, _, _, Try.underlying58⟩, by kernel_rfl, rfl, fun _ => rfl⟩
theorem ty59 : TI.ok Try.prog 59 ⟨.fn, 1, 8, .nilFunc⟩ := ⟨⟨_, _, _, Try.underlying59⟩, by kernel_rfl, rfl, fun _ => rfl⟩
theorem ty60 : TI.ok Try.prog 60 ⟨.fn, 1, 8, .nilFunc⟩ := ⟨⟨_, _, _, Try.underlying60⟩, by kernel_rfl, rfl, fun _ => rfl⟩
theorem ty61 : TI.ok Try.prog 61 ⟨.fn, 1, 8, .nilFunc⟩ := ⟨⟨_, _, _, Try.underlying61⟩, by kernel_rfl, rfl, fun _ => rfl⟩
theorem ty62 : TI.ok Try.prog 62 ⟨.fn, 1, 8, .nilFunc⟩ := ⟨⟨_, _, _, Try.underlying62⟩, by kernel_rfl, rfl, fun _ => rfl⟩
theorem ty63 : TI.ok Try.prog 63 ⟨.int .i64, 1, 8, .int .i64 0⟩ := ⟨Try.underlying63, by kernel_rfl, rfl, fun _ => rfl⟩
theorem ty65 : TI.ok Try.prog 65 ⟨.fn, 1, 8, .nilFunc⟩ := ⟨⟨_, _, _, Try.underlying65⟩, by kernel_rfl, rfl, fun _ => rfl⟩
theorem ty66 : TI.ok Try.prog 66 ⟨.fn, 1, 8, .nilFunc⟩ := ⟨⟨_, _, _, Try.underlying66⟩, by kernel_rfl, rfl, fun _ => rfl⟩
theorem ty67 : TI.ok Try.prog 67 ⟨.fn, 1, 8, .nilFunc⟩ := ⟨⟨_, _, _, Try.underlying67⟩, by kernel_rfl, rfl, fun _ => rfl⟩
theorem ty69 : TI.ok Try.prog 69 ⟨.fn, 1, 8, .nilFunc⟩ := ⟨⟨_, _, _, Try.underlying69⟩, by kernel_rfl, rfl, fun _ => rfl⟩
theorem ty70 : TI.ok Try.prog 70 ⟨.fn, 1, 8, .nilFunc⟩ := ⟨⟨_, _, _, Try.underlying70⟩, by kernel_rfl, rfl, fun _ => rfl⟩
theorem ty71 : TI.ok Try.prog 71 ⟨.int .u32, 1, 4, .int .u32 0⟩ := ⟨Try.underlying71, by kernel_rfl, rfl, fun _ => rfl⟩
theorem ty72 : TI.ok Try.prog 72 ⟨.fn, 1, 8, .nilFunc⟩ := ⟨⟨_, _, _, Try.underlying72⟩, by kernel_rfl, rfl, fun _ => rfl⟩
theorem ty73 : TI.ok Try.prog 73 ⟨.int .u64, 1, 8, .int .u64 0⟩ := ⟨Try.underlying73, by kernel_rfl, rfl, fun _ => rfl⟩
theorem ty74 : TI.ok Try.prog 74 ⟨.fn, 1, 8, .nilFunc⟩ := ⟨⟨_, _, _, Try.underlying74⟩, by kernel_rfl, rfl, fun _ => rfl⟩
theorem ty75 : TI.ok Try.prog 75 ⟨.int .u64, 1, 8, .int .u64 0⟩ := ⟨Try.underlying75, by kernel_rfl, rfl, fun _ => rfl⟩
theorem ty76 : TI.ok Try.prog 76 ⟨.fn, 1, 8, .nilFunc⟩ := ⟨⟨_, _, _, Try.underlying76⟩, by kernel_rfl, rfl, fun _ => rfl⟩
theorem ty77 : TI.ok Try.prog 77 ⟨.fn, 1, 8, .nilFunc⟩ := ⟨⟨_, _, _, Try.underlying77⟩, by kernel_rfl, rfl, fun _ => rfl⟩
theorem ty78 : TI.ok Try.prog 78 ⟨.fn, 1, 8, .nilFunc⟩ := ⟨⟨_, _, _, Try.underlying78⟩, by kernel_rfl, rfl, fun _ => rfl⟩
theorem ty79 : TI.ok Try.prog 79 ⟨.ptr 3, 1, 8, .pointer none⟩ := ⟨Try.underlying79, by kernel_rfl, rfl, fun _ => rfl⟩
theorem ty80 : TI.ok Try.prog 80 ⟨.fn, 1, 8, .nilFunc⟩ := ⟨⟨_, _, _, Try.underlying80⟩, by kernel_rfl, rfl, fun _ => rfl⟩
theorem ty81 : TI.ok Try.prog 81 ⟨.ptr 75, 1, 8, .pointer none⟩ := ⟨Try.underlying81, by kernel_rfl, rfl, fun _ => rfl⟩
theorem ty82 : TI.ok Try.prog 82 ⟨.fn, 1, 8, .nilFunc⟩ := ⟨⟨_, _, _, Try.underlying82⟩, by kernel_rfl, rfl, fun _ => rfl⟩
theorem ty83 : TI.ok Try.prog 83 ⟨.fn, 1, 8, .nilFunc⟩ := ⟨⟨_, _, _, Try.underlying83⟩, by kernel_rfl, rfl, fun _ => rfl⟩
theorem ty89 : TI.ok Try.prog 89 ⟨.fn, 1, 8, .nilFunc⟩ := ⟨⟨_, _, _, Try.underlying89⟩, by kernel_rfl, rfl, fun _ => rfl⟩
theorem ty92 : TI.ok Try.prog 92 ⟨.fn, 1, 8, .nilFunc⟩ := ⟨⟨_, _, _, Try.underlying92⟩, by kernel_rfl, rfl, fun _ => rfl⟩
theorem ty93 : TI.ok Try.prog 93 ⟨.ptr 5, 1, 8, .pointer none⟩ := ⟨Try.underlying93, by kernel_rfl, rfl, fun _ => rfl⟩
theorem ty96 : TI.ok Try.prog 96 ⟨.struct [(0, 12), (1, 12), (2, 71), (3, 90), (4, 5), (5, 5), (6, 91), (7, 92), (8, 93), (9, 94), (10, 95)], 11, 48, .agg #[.int .u64 0, .int .u64 0, .int .u32 0, .int .u8 0, .int .u8 0, .int .u8 0, .int .u8 0, .nilFunc, .pointer none, .int .i32 0, .int .i32 0]⟩ := ⟨⟨_, Try.underlying96, by kernel_rfl⟩, by kernel_rfl, rfl, fun h => nomatch h⟩
def tyTab : List (Option TI) := [none, some ⟨.fn, 1, 8, .nilFunc⟩, some ⟨.int .i64, 1, 8, .int .i64 0⟩, some ⟨.int .i64, 1, 8, .int .i64 0⟩, some ⟨.bool, 1, 1, .bool false⟩, some ⟨.int .u8, 1, 1, .int .u8 0⟩, none, none, none, some ⟨.str, 1, 16, .string ⟨#[]⟩⟩, none, none, some ⟨.int .u64, 1, 8, .int .u64 0⟩, none, none, none, none, some ⟨.ptr 97, 1, 8, .pointer none⟩, none, none, none, some ⟨.int .i32, 1, 4, .int .i32 0⟩, some ⟨.slice 24, 1, 24, .slice none 0 0⟩, some ⟨.fn, 1, 8, .nilFunc⟩, some ⟨.slice 3, 1, 24, .slice none 0 0⟩, none, some ⟨.fn, 1, 8, .nilFunc⟩, some ⟨.fn, 1, 8, .nilFunc⟩, some ⟨.fn, 1, 8, .nilFunc⟩, some ⟨.fn, 1, 8, .nilFunc⟩, some ⟨.fn, 1, 8, .nilFunc⟩, some ⟨.fn, 1, 8, .nilFunc⟩, none, some ⟨.fn, 1, 8, .nilFunc⟩, some ⟨.fn, 1, 8, .nilFunc⟩, some ⟨.fn, 1, 8, .nilFunc⟩, none, some ⟨.fn, 1, 8, .nilFunc⟩, some ⟨.fn, 1, 8, .nilFunc⟩, some ⟨.fn, 1, 8, .nilFunc⟩, some ⟨.fn, 1, 8, .nilFunc⟩, some ⟨.fn, 1, 8, .nilFunc⟩, some ⟨.fn, 1, 8, .nilFunc⟩, some ⟨.fn, 1, 8, .nilFunc⟩, some ⟨.fn, 1, 8, .nilFunc⟩, some ⟨.fn, 1, 8, .nilFunc⟩, some ⟨.fn, 1, 8, .nilFunc⟩, some ⟨.fn, 1, 8, .nilFunc⟩, some ⟨.fn, 1, 8, .nilFunc⟩, none, some ⟨.fn, 1, 8, .nilFunc⟩, some ⟨.fn, 1, 8, .nilFunc⟩, some ⟨.fn, 1, 8, .nilFunc⟩, some ⟨.fn, 1, 8, .nilFunc⟩, some ⟨.fn, 1, 8, .nilFunc⟩, some ⟨.fn, 1, 8, .nilFunc⟩, some ⟨.fn, 1, 8, .nilFunc⟩, some ⟨.int .u64, 1, 8, .int .u64 0⟩, some ⟨.fn, 1, 8, .nilFunc⟩, some ⟨.fn, 1, 8, .nilFunc⟩, some ⟨.fn, 1, 8, .nilFunc⟩, some ⟨.fn, 1, 8, .nilFunc⟩, some ⟨.fn, 1, 8, .nilFunc⟩, some ⟨.int .i64, 1, 8, .int .i64 0⟩, none, some ⟨.fn, 1, 8, .nilFunc⟩, some ⟨.fn, 1, 8, .nilFunc⟩, some ⟨.fn, 1, 8, .nilFunc⟩, none, some ⟨.fn, 1, 8, .nilFunc⟩, some ⟨.fn, 1, 8, .nilFunc⟩, some ⟨.int .u32, 1, 4, .int .u32 0⟩, some ⟨.fn, 1, 8, .nilFunc⟩, some ⟨.int .u64, 1, 8, .int .u64 0⟩, some ⟨.fn, 1, 8, .nilFunc⟩, some ⟨.int .u64, 1, 8, .int .u64 0⟩, some ⟨.fn, 1, 8, .nilFunc⟩, some ⟨.fn, 1, 8, .nilFunc⟩, some ⟨.fn, 1, 8, .nilFunc⟩, some ⟨.ptr 3, 1, 8, .pointer none⟩, some ⟨.fn, 1, 8, .nilFunc⟩, some ⟨.ptr 75, 1, 8, .pointer none⟩, some ⟨.fn, 1, 8, .nilFunc⟩, some ⟨.fn, 1, 8, .nilFunc⟩, none, none, none, none, none, some ⟨.fn, 1, 8, .nilFunc⟩, none, none, some ⟨.fn, 1, 8, .nilFunc⟩, some ⟨.ptr 5, 1, 8, .pointer none⟩, none, none, some ⟨.struct [(0, 12), (1, 12), (2, 71), (3, 90), (4, 5), (5, 5), (6, 91), (7, 92), (8, 93), (9, 94), (10, 95)], 11, 48, .agg #[.int .u64 0, .int .u64 0, .int .u32 0, .int .u8 0, .int .u8 0, .int .u8 0, .int .u8 0, .nilFunc, .pointer none, .int .i32 0, .int .i32 0]⟩]
theorem tyok : TyOk Try.prog (tyD tyTab) := AllTy.ok ⟨ty1, ty2, ty3, ty4, ty5, ty9, ty12, ty17, ty21, ty22, ty23, ty24, ty26, ty27, ty28, ty29, ty30, ty31, ty33, ty34, ty35, ty37, ty38, ty39, ty40, ty41, ty42, ty43, ty44, ty45, ty46, ty47, ty48, ty50, ty51, ty52, ty53, ty54, ty55, ty56, ty57, ty58, ty59, ty60, ty61, ty62, ty63, ty65, ty66, ty67, ty69, ty70, ty71, ty72, ty73, ty74, ty75, ty76, ty77, ty78, ty79, ty80, ty81, ty82, ty83, ty89, ty92, ty93, ty96, trivial⟩
end Go.Proofs.Ytjclanocnkankaa
