/- Kt -/
import Derived.Test.YtoaifmomhaneiaaGreatDoorEc
import Derived.Test.YtoaifmomhaneiaaGreatDoorChecked
import Derived.KernelRfl
import Derived.Test.YtoaifmomhaneiaaGreatDoorEd
namespace Go.Proofs.YtoaifmomhaneiaaGreatDoor
open Go Go.Proofs.YtoaifmomhaneiaaGreatDoor.Abs
set_option linter.unusedSimpArgs false
set_option linter.unusedVariables false
theorem ty1:TI.ok Tryz.prog 1 ⟨.fn,1,8,.nilFunc⟩:=⟨⟨_,_,_,Tryz.underlying1⟩,by kernel_rfl,rfl,λ_=>rfl⟩
theorem ty2:TI.ok Tryz.prog 2 ⟨.int .i64,1,8,.int .i64 0⟩:=⟨Tryz.underlying2,by kernel_rfl,rfl,λ_=>rfl⟩
theorem ty3:TI.ok Tryz.prog 3 ⟨.int .i64,1,8,.int .i64 0⟩:=⟨Tryz.underlying3,by kernel_rfl,rfl,λ_=>rfl⟩
theorem ty4:TI.ok Tryz.prog 4 ⟨.bool,1,1,.bool false⟩:=⟨Tryz.underlying4,by kernel_rfl,rfl,λ_=>rfl⟩
theorem ty5:TI.ok Tryz.prog 5 ⟨.int .u8,1,1,.int .u8 0⟩:=⟨Tryz.underlying5,by kernel_rfl,rfl,λ_=>rfl⟩
theorem ty9:TI.ok Tryz.prog 9 ⟨.str,1,16,.string ⟨#[]⟩⟩:=⟨Tryz.underlying9,by kernel_rfl,rfl,λ_=>rfl⟩
theorem jNd:TI.ok Tryz.prog 12 ⟨.int .u64,1,8,.int .u64 0⟩:=⟨Tryz.underlying12,by kernel_rfl,rfl,λ_=>rfl⟩
theorem jNe:TI.ok Tryz.prog 17 ⟨.ptr 338,1,8,.pointer none⟩:=⟨Tryz.underlying17,by kernel_rfl,rfl,λ_=>rfl⟩
theorem jNf:TI.ok Tryz.prog 21 ⟨.int .i32,1,4,.int .i32 0⟩:=⟨Tryz.underlying21,by kernel_rfl,rfl,λ_=>rfl⟩
theorem jNg:TI.ok Tryz.prog 22 ⟨.slice 89,1,24,.slice none 0 0⟩:=⟨Tryz.underlying22,by kernel_rfl,rfl,λ_=>rfl⟩
theorem jNh:TI.ok Tryz.prog 23 ⟨.slice 92,1,24,.slice none 0 0⟩:=⟨Tryz.underlying23,by kernel_rfl,rfl,λ_=>rfl⟩
theorem jNi:TI.ok Tryz.prog 24 ⟨.struct [(0,22),(1,23)],2,48,.agg #[.slice none 0 0,.slice none 0 0]⟩:=⟨⟨_,Tryz.underlying24,by kernel_rfl⟩,by kernel_rfl,rfl,λh=>nomatch h⟩
theorem jNj:TI.ok Tryz.prog 25 ⟨.struct [(0,22),(1,23)],2,48,.agg #[.slice none 0 0,.slice none 0 0]⟩:=⟨⟨_,Tryz.underlying25,by kernel_rfl⟩,by kernel_rfl,rfl,λh=>nomatch h⟩
theorem jNk:TI.ok Tryz.prog 26 ⟨.fn,1,8,.nilFunc⟩:=⟨⟨_,_,_,Tryz.underlying26⟩,by kernel_rfl,rfl,λ_=>rfl⟩
theorem jNl:TI.ok Tryz.prog 28 ⟨.fn,1,8,.nilFunc⟩:=⟨⟨_,_,_,Tryz.underlying28⟩,by kernel_rfl,rfl,λ_=>rfl⟩
theorem jNm:TI.ok Tryz.prog 29 ⟨.slice 69,1,24,.slice none 0 0⟩:=⟨Tryz.underlying29,by kernel_rfl,rfl,λ_=>rfl⟩
theorem jNn:TI.ok Tryz.prog 30 ⟨.slice 71,1,24,.slice none 0 0⟩:=⟨Tryz.underlying30,by kernel_rfl,rfl,λ_=>rfl⟩
theorem jNo:TI.ok Tryz.prog 31 ⟨.struct [(0,29),(1,30)],2,48,.agg #[.slice none 0 0,.slice none 0 0]⟩:=⟨⟨_,Tryz.underlying31,by kernel_rfl⟩,by kernel_rfl,rfl,λh=>nomatch h⟩
theorem jNp:TI.ok Tryz.prog 32 ⟨.struct [(0,29),(1,30)],2,48,.agg #[.slice none 0 0,.slice none 0 0]⟩:=⟨⟨_,Tryz.underlying32,by kernel_rfl⟩,by kernel_rfl,rfl,λh=>nomatch h⟩
theorem jNq:TI.ok Tryz.prog 33 ⟨.fn,1,8,.nilFunc⟩:=⟨⟨_,_,_,Tryz.underlying33⟩,by kernel_rfl,rfl,λ_=>rfl⟩
theorem jNr:TI.ok Tryz.prog 34 ⟨.fn,1,8,.nilFunc⟩:=⟨⟨_,_,_,Tryz.underlying34⟩,by kernel_rfl,rfl,λ_=>rfl⟩
theorem jNs:TI.ok Tryz.prog 35 ⟨.fn,1,8,.nilFunc⟩:=⟨⟨_,_,_,Tryz.underlying35⟩,by kernel_rfl,rfl,λ_=>rfl⟩
theorem jNt:TI.ok Tryz.prog 36 ⟨.fn,1,8,.nilFunc⟩:=⟨⟨_,_,_,Tryz.underlying36⟩,by kernel_rfl,rfl,λ_=>rfl⟩
theorem jNu:TI.ok Tryz.prog 37 ⟨.fn,1,8,.nilFunc⟩:=⟨⟨_,_,_,Tryz.underlying37⟩,by kernel_rfl,rfl,λ_=>rfl⟩
theorem jNv:TI.ok Tryz.prog 39 ⟨.fn,1,8,.nilFunc⟩:=⟨⟨_,_,_,Tryz.underlying39⟩,by kernel_rfl,rfl,λ_=>rfl⟩
theorem jNw:TI.ok Tryz.prog 40 ⟨.fn,1,8,.nilFunc⟩:=⟨⟨_,_,_,Tryz.underlying40⟩,by kernel_rfl,rfl,λ_=>rfl⟩
theorem jNx:TI.ok Tryz.prog 41 ⟨.slice 3,1,24,.slice none 0 0⟩:=⟨Tryz.underlying41,by kernel_rfl,rfl,λ_=>rfl⟩
theorem jNy:TI.ok Tryz.prog 42 ⟨.struct [(0,25),(2,41),(3,41),(4,4)],5,104,.agg #[.slice none 0 0,.slice none 0 0,.slice none 0 0,.slice none 0 0,.bool false]⟩:=⟨⟨_,Tryz.underlying42,by kernel_rfl⟩,by kernel_rfl,rfl,λh=>nomatch h⟩
theorem jNz:TI.ok Tryz.prog 43 ⟨.struct [(0,25),(2,41),(3,41),(4,4)],5,104,.agg #[.slice none 0 0,.slice none 0 0,.slice none 0 0,.slice none 0 0,.bool false]⟩:=⟨⟨_,Tryz.underlying43,by kernel_rfl⟩,by kernel_rfl,rfl,λh=>nomatch h⟩
theorem jNA:TI.ok Tryz.prog 44 ⟨.fn,1,8,.nilFunc⟩:=⟨⟨_,_,_,Tryz.underlying44⟩,by kernel_rfl,rfl,λ_=>rfl⟩
theorem jNB:TI.ok Tryz.prog 45 ⟨.fn,1,8,.nilFunc⟩:=⟨⟨_,_,_,Tryz.underlying45⟩,by kernel_rfl,rfl,λ_=>rfl⟩
theorem jNC:TI.ok Tryz.prog 46 ⟨.struct [(0,32),(2,41),(3,41),(4,4)],5,104,.agg #[.slice none 0 0,.slice none 0 0,.slice none 0 0,.slice none 0 0,.bool false]⟩:=⟨⟨_,Tryz.underlying46,by kernel_rfl⟩,by kernel_rfl,rfl,λh=>nomatch h⟩
theorem jND:TI.ok Tryz.prog 47 ⟨.struct [(0,32),(2,41),(3,41),(4,4)],5,104,.agg #[.slice none 0 0,.slice none 0 0,.slice none 0 0,.slice none 0 0,.bool false]⟩:=⟨⟨_,Tryz.underlying47,by kernel_rfl⟩,by kernel_rfl,rfl,λh=>nomatch h⟩
theorem jNE:TI.ok Tryz.prog 48 ⟨.fn,1,8,.nilFunc⟩:=⟨⟨_,_,_,Tryz.underlying48⟩,by kernel_rfl,rfl,λ_=>rfl⟩
theorem jNF:TI.ok Tryz.prog 49 ⟨.fn,1,8,.nilFunc⟩:=⟨⟨_,_,_,Tryz.underlying49⟩,by kernel_rfl,rfl,λ_=>rfl⟩
theorem jNG:TI.ok Tryz.prog 50 ⟨.fn,1,8,.nilFunc⟩:=⟨⟨_,_,_,Tryz.underlying50⟩,by kernel_rfl,rfl,λ_=>rfl⟩
theorem jNH:TI.ok Tryz.prog 52 ⟨.fn,1,8,.nilFunc⟩:=⟨⟨_,_,_,Tryz.underlying52⟩,by kernel_rfl,rfl,λ_=>rfl⟩
theorem jNI:TI.ok Tryz.prog 53 ⟨.fn,1,8,.nilFunc⟩:=⟨⟨_,_,_,Tryz.underlying53⟩,by kernel_rfl,rfl,λ_=>rfl⟩
theorem jNJ:TI.ok Tryz.prog 54 ⟨.fn,1,8,.nilFunc⟩:=⟨⟨_,_,_,Tryz.underlying54⟩,by kernel_rfl,rfl,λ_=>rfl⟩
theorem jNK:TI.ok Tryz.prog 55 ⟨.fn,1,8,.nilFunc⟩:=⟨⟨_,_,_,Tryz.underlying55⟩,by kernel_rfl,rfl,λ_=>rfl⟩
theorem jNL:TI.ok Tryz.prog 56 ⟨.fn,1,8,.nilFunc⟩:=⟨⟨_,_,_,Tryz.underlying56⟩,by kernel_rfl,rfl,λ_=>rfl⟩
theorem jNM:TI.ok Tryz.prog 57 ⟨.fn,1,8,.nilFunc⟩:=⟨⟨_,_,_,Tryz.underlying57⟩,by kernel_rfl,rfl,λ_=>rfl⟩
theorem jNN:TI.ok Tryz.prog 58 ⟨.fn,1,8,.nilFunc⟩:=⟨⟨_,_,_,Tryz.underlying58⟩,by kernel_rfl,rfl,λ_=>rfl⟩
theorem jNO:TI.ok Tryz.prog 59 ⟨.fn,1,8,.nilFunc⟩:=⟨⟨_,_,_,Tryz.underlying59⟩,by kernel_rfl,rfl,λ_=>rfl⟩
theorem jNP:TI.ok Tryz.prog 60 ⟨.fn,1,8,.nilFunc⟩:=⟨⟨_,_,_,Tryz.underlying60⟩,by kernel_rfl,rfl,λ_=>rfl⟩
theorem jNQ:TI.ok Tryz.prog 61 ⟨.fn,1,8,.nilFunc⟩:=⟨⟨_,_,_,Tryz.underlying61⟩,by kernel_rfl,rfl,λ_=>rfl⟩
theorem jNR:TI.ok Tryz.prog 62 ⟨.fn,1,8,.nilFunc⟩:=⟨⟨_,_,_,Tryz.underlying62⟩,by kernel_rfl,rfl,λ_=>rfl⟩
theorem jNS:TI.ok Tryz.prog 63 ⟨.fn,1,8,.nilFunc⟩:=⟨⟨_,_,_,Tryz.underlying63⟩,by kernel_rfl,rfl,λ_=>rfl⟩
theorem jNT:TI.ok Tryz.prog 64 ⟨.fn,1,8,.nilFunc⟩:=⟨⟨_,_,_,Tryz.underlying64⟩,by kernel_rfl,rfl,λ_=>rfl⟩
theorem jNU:TI.ok Tryz.prog 65 ⟨.fn,1,8,.nilFunc⟩:=⟨⟨_,_,_,Tryz.underlying65⟩,by kernel_rfl,rfl,λ_=>rfl⟩
theorem jNV:TI.ok Tryz.prog 66 ⟨.fn,1,8,.nilFunc⟩:=⟨⟨_,_,_,Tryz.underlying66⟩,by kernel_rfl,rfl,λ_=>rfl⟩
theorem jNW:TI.ok Tryz.prog 67 ⟨.slice 125,1,24,.slice none 0 0⟩:=⟨Tryz.underlying67,by kernel_rfl,rfl,λ_=>rfl⟩
theorem jNX:TI.ok Tryz.prog 68 ⟨.struct [(0,67)],1,24,.agg #[.slice none 0 0]⟩:=⟨⟨_,Tryz.underlying68,by kernel_rfl⟩,by kernel_rfl,rfl,λh=>nomatch h⟩
theorem jNY:TI.ok Tryz.prog 69 ⟨.struct [(0,67)],1,24,.agg #[.slice none 0 0]⟩:=⟨⟨_,Tryz.underlying69,by kernel_rfl⟩,by kernel_rfl,rfl,λh=>nomatch h⟩
theorem jNZ:TI.ok Tryz.prog 70 ⟨.struct [(0,3),(1,41),(2,41),(3,69)],4,80,.agg #[.int .i64 0,.slice none 0 0,.slice none 0 0,.slice none 0 0]⟩:=⟨⟨_,Tryz.underlying70,by kernel_rfl⟩,by kernel_rfl,rfl,λh=>nomatch h⟩
theorem jN0:TI.ok Tryz.prog 71 ⟨.struct [(0,3),(1,41),(2,41),(3,69)],4,80,.agg #[.int .i64 0,.slice none 0 0,.slice none 0 0,.slice none 0 0]⟩:=⟨⟨_,Tryz.underlying71,by kernel_rfl⟩,by kernel_rfl,rfl,λh=>nomatch h⟩
theorem jN1:TI.ok Tryz.prog 72 ⟨.fn,1,8,.nilFunc⟩:=⟨⟨_,_,_,Tryz.underlying72⟩,by kernel_rfl,rfl,λ_=>rfl⟩
theorem jN2:TI.ok Tryz.prog 73 ⟨.fn,1,8,.nilFunc⟩:=⟨⟨_,_,_,Tryz.underlying73⟩,by kernel_rfl,rfl,λ_=>rfl⟩
theorem jN3:TI.ok Tryz.prog 74 ⟨.fn,1,8,.nilFunc⟩:=⟨⟨_,_,_,Tryz.underlying74⟩,by kernel_rfl,rfl,λ_=>rfl⟩
theorem jN4:TI.ok Tryz.prog 75 ⟨.fn,1,8,.nilFunc⟩:=⟨⟨_,_,_,Tryz.underlying75⟩,by kernel_rfl,rfl,λ_=>rfl⟩
theorem jN5:TI.ok Tryz.prog 76 ⟨.map 3 4,1,8,.map none⟩:=⟨Tryz.underlying76,by kernel_rfl,rfl,λ_=>rfl⟩
theorem jN6:TI.ok Tryz.prog 77 ⟨.fn,1,8,.nilFunc⟩:=⟨⟨_,_,_,Tryz.underlying77⟩,by kernel_rfl,rfl,λ_=>rfl⟩
theorem jN7:TI.ok Tryz.prog 78 ⟨.fn,1,8,.nilFunc⟩:=⟨⟨_,_,_,Tryz.underlying78⟩,by kernel_rfl,rfl,λ_=>rfl⟩
theorem jN8:TI.ok Tryz.prog 79 ⟨.fn,1,8,.nilFunc⟩:=⟨⟨_,_,_,Tryz.underlying79⟩,by kernel_rfl,rfl,λ_=>rfl⟩
theorem jN9:TI.ok Tryz.prog 80 ⟨.fn,1,8,.nilFunc⟩:=⟨⟨_,_,_,Tryz.underlying80⟩,by kernel_rfl,rfl,λ_=>rfl⟩
theorem jOa:TI.ok Tryz.prog 81 ⟨.fn,1,8,.nilFunc⟩:=⟨⟨_,_,_,Tryz.underlying81⟩,by kernel_rfl,rfl,λ_=>rfl⟩
theorem jOb:TI.ok Tryz.prog 82 ⟨.fn,1,8,.nilFunc⟩:=⟨⟨_,_,_,Tryz.underlying82⟩,by kernel_rfl,rfl,λ_=>rfl⟩
theorem jOc:TI.ok Tryz.prog 83 ⟨.fn,1,8,.nilFunc⟩:=⟨⟨_,_,_,Tryz.underlying83⟩,by kernel_rfl,rfl,λ_=>rfl⟩
theorem jOd:TI.ok Tryz.prog 84 ⟨.fn,1,8,.nilFunc⟩:=⟨⟨_,_,_,Tryz.underlying84⟩,by kernel_rfl,rfl,λ_=>rfl⟩
theorem jOe:TI.ok Tryz.prog 85 ⟨.fn,1,8,.nilFunc⟩:=⟨⟨_,_,_,Tryz.underlying85⟩,by kernel_rfl,rfl,λ_=>rfl⟩
theorem jOf:TI.ok Tryz.prog 86 ⟨.fn,1,8,.nilFunc⟩:=⟨⟨_,_,_,Tryz.underlying86⟩,by kernel_rfl,rfl,λ_=>rfl⟩
theorem jOg:TI.ok Tryz.prog 87 ⟨.slice 154,1,24,.slice none 0 0⟩:=⟨Tryz.underlying87,by kernel_rfl,rfl,λ_=>rfl⟩
theorem jOh:TI.ok Tryz.prog 88 ⟨.struct [(0,87)],1,24,.agg #[.slice none 0 0]⟩:=⟨⟨_,Tryz.underlying88,by kernel_rfl⟩,by kernel_rfl,rfl,λh=>nomatch h⟩
theorem jOi:TI.ok Tryz.prog 89 ⟨.struct [(0,87)],1,24,.agg #[.slice none 0 0]⟩:=⟨⟨_,Tryz.underlying89,by kernel_rfl⟩,by kernel_rfl,rfl,λh=>nomatch h⟩
theorem jOj:TI.ok Tryz.prog 90 ⟨.fn,1,8,.nilFunc⟩:=⟨⟨_,_,_,Tryz.underlying90⟩,by kernel_rfl,rfl,λ_=>rfl⟩
theorem jOk:TI.ok Tryz.prog 91 ⟨.struct [(0,3),(1,41),(2,41),(3,89)],4,80,.agg #[.int .i64 0,.slice none 0 0,.slice none 0 0,.slice none 0 0]⟩:=⟨⟨_,Tryz.underlying91,by kernel_rfl⟩,by kernel_rfl,rfl,λh=>nomatch h⟩
theorem jOl:TI.ok Tryz.prog 92 ⟨.struct [(0,3),(1,41),(2,41),(3,89)],4,80,.agg #[.int .i64 0,.slice none 0 0,.slice none 0 0,.slice none 0 0]⟩:=⟨⟨_,Tryz.underlying92,by kernel_rfl⟩,by kernel_rfl,rfl,λh=>nomatch h⟩
theorem jOm:TI.ok Tryz.prog 93 ⟨.fn,1,8,.nilFunc⟩:=⟨⟨_,_,_,Tryz.underlying93⟩,by kernel_rfl,rfl,λ_=>rfl⟩
theorem jOn:TI.ok Tryz.prog 95 ⟨.fn,1,8,.nilFunc⟩:=⟨⟨_,_,_,Tryz.underlying95⟩,by kernel_rfl,rfl,λ_=>rfl⟩
theorem jOo:TI.ok Tryz.prog 96 ⟨.fn,1,8,.nilFunc⟩:=⟨⟨_,_,_,Tryz.underlying96⟩,by kernel_rfl,rfl,λ_=>rfl⟩
theorem jOp:TI.ok Tryz.prog 97 ⟨.fn,1,8,.nilFunc⟩:=⟨⟨_,_,_,Tryz.underlying97⟩,by kernel_rfl,rfl,λ_=>rfl⟩
theorem jOq:TI.ok Tryz.prog 98 ⟨.fn,1,8,.nilFunc⟩:=⟨⟨_,_,_,Tryz.underlying98⟩,by kernel_rfl,rfl,λ_=>rfl⟩
theorem jOr:TI.ok Tryz.prog 99 ⟨.fn,1,8,.nilFunc⟩:=⟨⟨_,_,_,Tryz.underlying99⟩,by kernel_rfl,rfl,λ_=>rfl⟩
theorem jGr:TI.ok Tryz.prog 100 ⟨.fn,1,8,.nilFunc⟩:=⟨⟨_,_,_,Tryz.underlying100⟩,by kernel_rfl,rfl,λ_=>rfl⟩
theorem jGs:TI.ok Tryz.prog 101 ⟨.fn,1,8,.nilFunc⟩:=⟨⟨_,_,_,Tryz.underlying101⟩,by kernel_rfl,rfl,λ_=>rfl⟩
theorem jGt:TI.ok Tryz.prog 102 ⟨.fn,1,8,.nilFunc⟩:=⟨⟨_,_,_,Tryz.underlying102⟩,by kernel_rfl,rfl,λ_=>rfl⟩
theorem jGu:TI.ok Tryz.prog 103 ⟨.fn,1,8,.nilFunc⟩:=⟨⟨_,_,_,Tryz.underlying103⟩,by kernel_rfl,rfl,λ_=>rfl⟩
theorem jGv:TI.ok Tryz.prog 104 ⟨.fn,1,8,.nilFunc⟩:=⟨⟨_,_,_,Tryz.underlying104⟩,by kernel_rfl,rfl,λ_=>rfl⟩
theorem jGw:TI.ok Tryz.prog 105 ⟨.slice 41,1,24,.slice none 0 0⟩:=⟨Tryz.underlying105,by kernel_rfl,rfl,λ_=>rfl⟩
theorem jGx:TI.ok Tryz.prog 106 ⟨.fn,1,8,.nilFunc⟩:=⟨⟨_,_,_,Tryz.underlying106⟩,by kernel_rfl,rfl,λ_=>rfl⟩
theorem jGy:TI.ok Tryz.prog 107 ⟨.slice 4,1,24,.slice none 0 0⟩:=⟨Tryz.underlying107,by kernel_rfl,rfl,λ_=>rfl⟩
theorem jGz:TI.ok Tryz.prog 108 ⟨.fn,1,8,.nilFunc⟩:=⟨⟨_,_,_,Tryz.underlying108⟩,by kernel_rfl,rfl,λ_=>rfl⟩
theorem jGA:TI.ok Tryz.prog 109 ⟨.fn,1,8,.nilFunc⟩:=⟨⟨_,_,_,Tryz.underlying109⟩,by kernel_rfl,rfl,λ_=>rfl⟩
theorem jGB:TI.ok Tryz.prog 110 ⟨.ptr 47,1,8,.pointer none⟩:=⟨Tryz.underlying110,by kernel_rfl,rfl,λ_=>rfl⟩
theorem jGC:TI.ok Tryz.prog 111 ⟨.fn,1,8,.nilFunc⟩:=⟨⟨_,_,_,Tryz.underlying111⟩,by kernel_rfl,rfl,λ_=>rfl⟩
theorem jGD:TI.ok Tryz.prog 112 ⟨.fn,1,8,.nilFunc⟩:=⟨⟨_,_,_,Tryz.underlying112⟩,by kernel_rfl,rfl,λ_=>rfl⟩
theorem jGE:TI.ok Tryz.prog 113 ⟨.fn,1,8,.nilFunc⟩:=⟨⟨_,_,_,Tryz.underlying113⟩,by kernel_rfl,rfl,λ_=>rfl⟩
theorem jGF:TI.ok Tryz.prog 114 ⟨.int .u64,1,8,.int .u64 0⟩:=⟨Tryz.underlying114,by kernel_rfl,rfl,λ_=>rfl⟩
theorem jGG:TI.ok Tryz.prog 115 ⟨.fn,1,8,.nilFunc⟩:=⟨⟨_,_,_,Tryz.underlying115⟩,by kernel_rfl,rfl,λ_=>rfl⟩
theorem jGH:TI.ok Tryz.prog 116 ⟨.fn,1,8,.nilFunc⟩:=⟨⟨_,_,_,Tryz.underlying116⟩,by kernel_rfl,rfl,λ_=>rfl⟩
theorem jGI:TI.ok Tryz.prog 117 ⟨.fn,1,8,.nilFunc⟩:=⟨⟨_,_,_,Tryz.underlying117⟩,by kernel_rfl,rfl,λ_=>rfl⟩
theorem jGJ:TI.ok Tryz.prog 118 ⟨.fn,1,8,.nilFunc⟩:=⟨⟨_,_,_,Tryz.underlying118⟩,by kernel_rfl,rfl,λ_=>rfl⟩
theorem jGK:TI.ok Tryz.prog 119 ⟨.fn,1,8,.nilFunc⟩:=⟨⟨_,_,_,Tryz.underlying119⟩,by kernel_rfl,rfl,λ_=>rfl⟩
theorem jGL:TI.ok Tryz.prog 120 ⟨.fn,1,8,.nilFunc⟩:=⟨⟨_,_,_,Tryz.underlying120⟩,by kernel_rfl,rfl,λ_=>rfl⟩
theorem jGM:TI.ok Tryz.prog 121 ⟨.slice 123,1,24,.slice none 0 0⟩:=⟨Tryz.underlying121,by kernel_rfl,rfl,λ_=>rfl⟩
theorem jGN:TI.ok Tryz.prog 122 ⟨.struct [(0,9),(1,121)],2,40,.agg #[.string ⟨#[]⟩,.slice none 0 0]⟩:=⟨⟨_,Tryz.underlying122,by kernel_rfl⟩,by kernel_rfl,rfl,λh=>nomatch h⟩
theorem jGO:TI.ok Tryz.prog 123 ⟨.struct [(0,9),(1,121)],2,40,.agg #[.string ⟨#[]⟩,.slice none 0 0]⟩:=⟨⟨_,Tryz.underlying123,by kernel_rfl⟩,by kernel_rfl,rfl,λh=>nomatch h⟩
theorem jGP:TI.ok Tryz.prog 124 ⟨.struct [(0,4),(1,123)],3,48,.agg #[.bool false,.string ⟨#[]⟩,.slice none 0 0]⟩:=⟨⟨_,Tryz.underlying124,by kernel_rfl⟩,by kernel_rfl,rfl,λh=>nomatch h⟩
theorem jGQ:TI.ok Tryz.prog 125 ⟨.struct [(0,4),(1,123)],3,48,.agg #[.bool false,.string ⟨#[]⟩,.slice none 0 0]⟩:=⟨⟨_,Tryz.underlying125,by kernel_rfl⟩,by kernel_rfl,rfl,λh=>nomatch h⟩
theorem jGR:TI.ok Tryz.prog 126 ⟨.fn,1,8,.nilFunc⟩:=⟨⟨_,_,_,Tryz.underlying126⟩,by kernel_rfl,rfl,λ_=>rfl⟩
theorem jGS:TI.ok Tryz.prog 127 ⟨.fn,1,8,.nilFunc⟩:=⟨⟨_,_,_,Tryz.underlying127⟩,by kernel_rfl,rfl,λ_=>rfl⟩
theorem jGT:TI.ok Tryz.prog 128 ⟨.fn,1,8,.nilFunc⟩:=⟨⟨_,_,_,Tryz.underlying128⟩,by kernel_rfl,rfl,λ_=>rfl⟩
theorem jGU:TI.ok Tryz.prog 129 ⟨.fn,1,8,.nilFunc⟩:=⟨⟨_,_,_,Tryz.underlying129⟩,by kernel_rfl,rfl,λ_=>rfl⟩
theorem jGV:TI.ok Tryz.prog 131 ⟨.fn,1,8,.nilFunc⟩:=⟨⟨_,_,_,Tryz.underlying131⟩,by kernel_rfl,rfl,λ_=>rfl⟩
theorem jGW:TI.ok Tryz.prog 132 ⟨.fn,1,8,.nilFunc⟩:=⟨⟨_,_,_,Tryz.underlying132⟩,by kernel_rfl,rfl,λ_=>rfl⟩
theorem jGX:TI.ok Tryz.prog 133 ⟨.fn,1,8,.nilFunc⟩:=⟨⟨_,_,_,Tryz.underlying133⟩,by kernel_rfl,rfl,λ_=>rfl⟩
theorem jGY:TI.ok Tryz.prog 134 ⟨.fn,1,8,.nilFunc⟩:=⟨⟨_,_,_,Tryz.underlying134⟩,by kernel_rfl,rfl,λ_=>rfl⟩
theorem jGZ:TI.ok Tryz.prog 135 ⟨.fn,1,8,.nilFunc⟩:=⟨⟨_,_,_,Tryz.underlying135⟩,by kernel_rfl,rfl,λ_=>rfl⟩
theorem jG0:TI.ok Tryz.prog 136 ⟨.fn,1,8,.nilFunc⟩:=⟨⟨_,_,_,Tryz.underlying136⟩,by kernel_rfl,rfl,λ_=>rfl⟩
theorem jG1:TI.ok Tryz.prog 137 ⟨.fn,1,8,.nilFunc⟩:=⟨⟨_,_,_,Tryz.underlying137⟩,by kernel_rfl,rfl,λ_=>rfl⟩
theorem jG2:TI.ok Tryz.prog 138 ⟨.fn,1,8,.nilFunc⟩:=⟨⟨_,_,_,Tryz.underlying138⟩,by kernel_rfl,rfl,λ_=>rfl⟩
theorem jG3:TI.ok Tryz.prog 139 ⟨.fn,1,8,.nilFunc⟩:=⟨⟨_,_,_,Tryz.underlying139⟩,by kernel_rfl,rfl,λ_=>rfl⟩
theorem jG4:TI.ok Tryz.prog 140 ⟨.int .i64,1,8,.int .i64 0⟩:=⟨Tryz.underlying140,by kernel_rfl,rfl,λ_=>rfl⟩
theorem jG5:TI.ok Tryz.prog 142 ⟨.fn,1,8,.nilFunc⟩:=⟨⟨_,_,_,Tryz.underlying142⟩,by kernel_rfl,rfl,λ_=>rfl⟩
theorem jG6:TI.ok Tryz.prog 143 ⟨.fn,1,8,.nilFunc⟩:=⟨⟨_,_,_,Tryz.underlying143⟩,by kernel_rfl,rfl,λ_=>rfl⟩
theorem jG7:TI.ok Tryz.prog 144 ⟨.fn,1,8,.nilFunc⟩:=⟨⟨_,_,_,Tryz.underlying144⟩,by kernel_rfl,rfl,λ_=>rfl⟩
theorem jG8:TI.ok Tryz.prog 145 ⟨.fn,1,8,.nilFunc⟩:=⟨⟨_,_,_,Tryz.underlying145⟩,by kernel_rfl,rfl,λ_=>rfl⟩
theorem jG9:TI.ok Tryz.prog 146 ⟨.int .u32,1,4,.int .u32 0⟩:=⟨Tryz.underlying146,by kernel_rfl,rfl,λ_=>rfl⟩
theorem jHa:TI.ok Tryz.prog 147 ⟨.fn,1,8,.nilFunc⟩:=⟨⟨_,_,_,Tryz.underlying147⟩,by kernel_rfl,rfl,λ_=>rfl⟩
theorem jHb:TI.ok Tryz.prog 148 ⟨.int .u64,1,8,.int .u64 0⟩:=⟨Tryz.underlying148,by kernel_rfl,rfl,λ_=>rfl⟩
theorem jHc:TI.ok Tryz.prog 149 ⟨.fn,1,8,.nilFunc⟩:=⟨⟨_,_,_,Tryz.underlying149⟩,by kernel_rfl,rfl,λ_=>rfl⟩
theorem jHd:TI.ok Tryz.prog 150 ⟨.slice 152,1,24,.slice none 0 0⟩:=⟨Tryz.underlying150,by kernel_rfl,rfl,λ_=>rfl⟩
theorem jHe:TI.ok Tryz.prog 151 ⟨.struct [(0,9),(1,150)],2,40,.agg #[.string ⟨#[]⟩,.slice none 0 0]⟩:=⟨⟨_,Tryz.underlying151,by kernel_rfl⟩,by kernel_rfl,rfl,λh=>nomatch h⟩
theorem jHf:TI.ok Tryz.prog 152 ⟨.struct [(0,9),(1,150)],2,40,.agg #[.string ⟨#[]⟩,.slice none 0 0]⟩:=⟨⟨_,Tryz.underlying152,by kernel_rfl⟩,by kernel_rfl,rfl,λh=>nomatch h⟩
theorem jHg:TI.ok Tryz.prog 153 ⟨.struct [(0,4),(1,152)],3,48,.agg #[.bool false,.string ⟨#[]⟩,.slice none 0 0]⟩:=⟨⟨_,Tryz.underlying153,by kernel_rfl⟩,by kernel_rfl,rfl,λh=>nomatch h⟩
theorem jHh:TI.ok Tryz.prog 154 ⟨.struct [(0,4),(1,152)],3,48,.agg #[.bool false,.string ⟨#[]⟩,.slice none 0 0]⟩:=⟨⟨_,Tryz.underlying154,by kernel_rfl⟩,by kernel_rfl,rfl,λh=>nomatch h⟩
theorem jHi:TI.ok Tryz.prog 155 ⟨.fn,1,8,.nilFunc⟩:=⟨⟨_,_,_,Tryz.underlying155⟩,by kernel_rfl,rfl,λ_=>rfl⟩
theorem jHj:TI.ok Tryz.prog 156 ⟨.fn,1,8,.nilFunc⟩:=⟨⟨_,_,_,Tryz.underlying156⟩,by kernel_rfl,rfl,λ_=>rfl⟩
theorem jHk:TI.ok Tryz.prog 157 ⟨.slice 9,1,24,.slice none 0 0⟩:=⟨Tryz.underlying157,by kernel_rfl,rfl,λ_=>rfl⟩
theorem jHl:TI.ok Tryz.prog 158 ⟨.fn,1,8,.nilFunc⟩:=⟨⟨_,_,_,Tryz.underlying158⟩,by kernel_rfl,rfl,λ_=>rfl⟩
theorem jHm:TI.ok Tryz.prog 159 ⟨.fn,1,8,.nilFunc⟩:=⟨⟨_,_,_,Tryz.underlying159⟩,by kernel_rfl,rfl,λ_=>rfl⟩
theorem jHn:TI.ok Tryz.prog 160 ⟨.fn,1,8,.nilFunc⟩:=⟨⟨_,_,_,Tryz.underlying160⟩,by kernel_rfl,rfl,λ_=>rfl⟩
theorem jHo:TI.ok Tryz.prog 161 ⟨.fn,1,8,.nilFunc⟩:=⟨⟨_,_,_,Tryz.underlying161⟩,by kernel_rfl,rfl,λ_=>rfl⟩
theorem jHp:TI.ok Tryz.prog 163 ⟨.fn,1,8,.nilFunc⟩:=⟨⟨_,_,_,Tryz.underlying163⟩,by kernel_rfl,rfl,λ_=>rfl⟩
theorem jHq:TI.ok Tryz.prog 164 ⟨.fn,1,8,.nilFunc⟩:=⟨⟨_,_,_,Tryz.underlying164⟩,by kernel_rfl,rfl,λ_=>rfl⟩
theorem jHr:TI.ok Tryz.prog 165 ⟨.slice 216,1,24,.slice none 0 0⟩:=⟨Tryz.underlying165,by kernel_rfl,rfl,λ_=>rfl⟩
theorem jHs:TI.ok Tryz.prog 166 ⟨.struct [(0,165)],1,24,.agg #[.slice none 0 0]⟩:=⟨⟨_,Tryz.underlying166,by kernel_rfl⟩,by kernel_rfl,rfl,λh=>nomatch h⟩
theorem jHt:TI.ok Tryz.prog 167 ⟨.struct [(0,165)],1,24,.agg #[.slice none 0 0]⟩:=⟨⟨_,Tryz.underlying167,by kernel_rfl⟩,by kernel_rfl,rfl,λh=>nomatch h⟩
theorem jHu:TI.ok Tryz.prog 168 ⟨.slice 5,1,24,.slice none 0 0⟩:=⟨Tryz.underlying168,by kernel_rfl,rfl,λ_=>rfl⟩
theorem jHv:TI.ok Tryz.prog 169 ⟨.int .u64,1,8,.int .u64 0⟩:=⟨Tryz.underlying169,by kernel_rfl,rfl,λ_=>rfl⟩
theorem jHw:TI.ok Tryz.prog 170 ⟨.fn,1,8,.nilFunc⟩:=⟨⟨_,_,_,Tryz.underlying170⟩,by kernel_rfl,rfl,λ_=>rfl⟩
theorem jHx:TI.ok Tryz.prog 171 ⟨.fn,1,8,.nilFunc⟩:=⟨⟨_,_,_,Tryz.underlying171⟩,by kernel_rfl,rfl,λ_=>rfl⟩
theorem jHy:TI.ok Tryz.prog 172 ⟨.fn,1,8,.nilFunc⟩:=⟨⟨_,_,_,Tryz.underlying172⟩,by kernel_rfl,rfl,λ_=>rfl⟩
theorem jHz:TI.ok Tryz.prog 173 ⟨.ptr 3,1,8,.pointer none⟩:=⟨Tryz.underlying173,by kernel_rfl,rfl,λ_=>rfl⟩
theorem jHA:TI.ok Tryz.prog 174 ⟨.fn,1,8,.nilFunc⟩:=⟨⟨_,_,_,Tryz.underlying174⟩,by kernel_rfl,rfl,λ_=>rfl⟩
theorem jHB:TI.ok Tryz.prog 175 ⟨.fn,1,8,.nilFunc⟩:=⟨⟨_,_,_,Tryz.underlying175⟩,by kernel_rfl,rfl,λ_=>rfl⟩
theorem jHC:TI.ok Tryz.prog 176 ⟨.fn,1,8,.nilFunc⟩:=⟨⟨_,_,_,Tryz.underlying176⟩,by kernel_rfl,rfl,λ_=>rfl⟩
theorem jHD:TI.ok Tryz.prog 177 ⟨.fn,1,8,.nilFunc⟩:=⟨⟨_,_,_,Tryz.underlying177⟩,by kernel_rfl,rfl,λ_=>rfl⟩
theorem jHE:TI.ok Tryz.prog 178 ⟨.fn,1,8,.nilFunc⟩:=⟨⟨_,_,_,Tryz.underlying178⟩,by kernel_rfl,rfl,λ_=>rfl⟩
theorem jHF:TI.ok Tryz.prog 179 ⟨.fn,1,8,.nilFunc⟩:=⟨⟨_,_,_,Tryz.underlying179⟩,by kernel_rfl,rfl,λ_=>rfl⟩
theorem jHG:TI.ok Tryz.prog 181 ⟨.fn,1,8,.nilFunc⟩:=⟨⟨_,_,_,Tryz.underlying181⟩,by kernel_rfl,rfl,λ_=>rfl⟩
theorem jHH:TI.ok Tryz.prog 182 ⟨.fn,1,8,.nilFunc⟩:=⟨⟨_,_,_,Tryz.underlying182⟩,by kernel_rfl,rfl,λ_=>rfl⟩
theorem jHI:TI.ok Tryz.prog 183 ⟨.fn,1,8,.nilFunc⟩:=⟨⟨_,_,_,Tryz.underlying183⟩,by kernel_rfl,rfl,λ_=>rfl⟩
theorem jHJ:TI.ok Tryz.prog 185 ⟨.fn,1,8,.nilFunc⟩:=⟨⟨_,_,_,Tryz.underlying185⟩,by kernel_rfl,rfl,λ_=>rfl⟩
theorem jHK:TI.ok Tryz.prog 186 ⟨.fn,1,8,.nilFunc⟩:=⟨⟨_,_,_,Tryz.underlying186⟩,by kernel_rfl,rfl,λ_=>rfl⟩
theorem jHL:TI.ok Tryz.prog 187 ⟨.fn,1,8,.nilFunc⟩:=⟨⟨_,_,_,Tryz.underlying187⟩,by kernel_rfl,rfl,λ_=>rfl⟩
theorem jHM:TI.ok Tryz.prog 188 ⟨.fn,1,8,.nilFunc⟩:=⟨⟨_,_,_,Tryz.underlying188⟩,by kernel_rfl,rfl,λ_=>rfl⟩
theorem jHN:TI.ok Tryz.prog 189 ⟨.fn,1,8,.nilFunc⟩:=⟨⟨_,_,_,Tryz.underlying189⟩,by kernel_rfl,rfl,λ_=>rfl⟩
theorem jHO:TI.ok Tryz.prog 190 ⟨.fn,1,8,.nilFunc⟩:=⟨⟨_,_,_,Tryz.underlying190⟩,by kernel_rfl,rfl,λ_=>rfl⟩
theorem jHP:TI.ok Tryz.prog 191 ⟨.fn,1,8,.nilFunc⟩:=⟨⟨_,_,_,Tryz.underlying191⟩,by kernel_rfl,rfl,λ_=>rfl⟩
theorem jHQ:TI.ok Tryz.prog 192 ⟨.fn,1,8,.nilFunc⟩:=⟨⟨_,_,_,Tryz.underlying192⟩,by kernel_rfl,rfl,λ_=>rfl⟩
theorem jHR:TI.ok Tryz.prog 193 ⟨.fn,1,8,.nilFunc⟩:=⟨⟨_,_,_,Tryz.underlying193⟩,by kernel_rfl,rfl,λ_=>rfl⟩
theorem jHS:TI.ok Tryz.prog 194 ⟨.fn,1,8,.nilFunc⟩:=⟨⟨_,_,_,Tryz.underlying194⟩,by kernel_rfl,rfl,λ_=>rfl⟩
theorem jHT:TI.ok Tryz.prog 195 ⟨.fn,1,8,.nilFunc⟩:=⟨⟨_,_,_,Tryz.underlying195⟩,by kernel_rfl,rfl,λ_=>rfl⟩
theorem jHU:TI.ok Tryz.prog 196 ⟨.fn,1,8,.nilFunc⟩:=⟨⟨_,_,_,Tryz.underlying196⟩,by kernel_rfl,rfl,λ_=>rfl⟩
theorem jHV:TI.ok Tryz.prog 197 ⟨.fn,1,8,.nilFunc⟩:=⟨⟨_,_,_,Tryz.underlying197⟩,by kernel_rfl,rfl,λ_=>rfl⟩
theorem jHW:TI.ok Tryz.prog 198 ⟨.fn,1,8,.nilFunc⟩:=⟨⟨_,_,_,Tryz.underlying198⟩,by kernel_rfl,rfl,λ_=>rfl⟩
theorem jHX:TI.ok Tryz.prog 199 ⟨.ptr 169,1,8,.pointer none⟩:=⟨Tryz.underlying199,by kernel_rfl,rfl,λ_=>rfl⟩
theorem jHY:TI.ok Tryz.prog 201 ⟨.fn,1,8,.nilFunc⟩:=⟨⟨_,_,_,Tryz.underlying201⟩,by kernel_rfl,rfl,λ_=>rfl⟩
theorem jHZ:TI.ok Tryz.prog 202 ⟨.fn,1,8,.nilFunc⟩:=⟨⟨_,_,_,Tryz.underlying202⟩,by kernel_rfl,rfl,λ_=>rfl⟩
theorem jH0:TI.ok Tryz.prog 203 ⟨.fn,1,8,.nilFunc⟩:=⟨⟨_,_,_,Tryz.underlying203⟩,by kernel_rfl,rfl,λ_=>rfl⟩
theorem jH1:TI.ok Tryz.prog 204 ⟨.fn,1,8,.nilFunc⟩:=⟨⟨_,_,_,Tryz.underlying204⟩,by kernel_rfl,rfl,λ_=>rfl⟩
theorem jH2:TI.ok Tryz.prog 205 ⟨.fn,1,8,.nilFunc⟩:=⟨⟨_,_,_,Tryz.underlying205⟩,by kernel_rfl,rfl,λ_=>rfl⟩
theorem jH3:TI.ok Tryz.prog 206 ⟨.fn,1,8,.nilFunc⟩:=⟨⟨_,_,_,Tryz.underlying206⟩,by kernel_rfl,rfl,λ_=>rfl⟩
theorem jH4:TI.ok Tryz.prog 207 ⟨.fn,1,8,.nilFunc⟩:=⟨⟨_,_,_,Tryz.underlying207⟩,by kernel_rfl,rfl,λ_=>rfl⟩
theorem jH5:TI.ok Tryz.prog 208 ⟨.struct [(0,123),(2,123)],4,80,.agg #[.string ⟨#[]⟩,.slice none 0 0,.string ⟨#[]⟩,.slice none 0 0]⟩:=⟨⟨_,Tryz.underlying208,by kernel_rfl⟩,by kernel_rfl,rfl,λh=>nomatch h⟩
theorem jH6:TI.ok Tryz.prog 209 ⟨.struct [(0,123),(2,123)],4,80,.agg #[.string ⟨#[]⟩,.slice none 0 0,.string ⟨#[]⟩,.slice none 0 0]⟩:=⟨⟨_,Tryz.underlying209,by kernel_rfl⟩,by kernel_rfl,rfl,λh=>nomatch h⟩
theorem jH7:TI.ok Tryz.prog 210 ⟨.slice 209,1,24,.slice none 0 0⟩:=⟨Tryz.underlying210,by kernel_rfl,rfl,λ_=>rfl⟩
theorem jH8:TI.ok Tryz.prog 211 ⟨.fn,1,8,.nilFunc⟩:=⟨⟨_,_,_,Tryz.underlying211⟩,by kernel_rfl,rfl,λ_=>rfl⟩
theorem jH9:TI.ok Tryz.prog 212 ⟨.fn,1,8,.nilFunc⟩:=⟨⟨_,_,_,Tryz.underlying212⟩,by kernel_rfl,rfl,λ_=>rfl⟩
theorem jIa:TI.ok Tryz.prog 213 ⟨.fn,1,8,.nilFunc⟩:=⟨⟨_,_,_,Tryz.underlying213⟩,by kernel_rfl,rfl,λ_=>rfl⟩
theorem jIb:TI.ok Tryz.prog 214 ⟨.fn,1,8,.nilFunc⟩:=⟨⟨_,_,_,Tryz.underlying214⟩,by kernel_rfl,rfl,λ_=>rfl⟩
theorem jIc:TI.ok Tryz.prog 215 ⟨.struct [(0,9),(1,123)],3,56,.agg #[.string ⟨#[]⟩,.string ⟨#[]⟩,.slice none 0 0]⟩:=⟨⟨_,Tryz.underlying215,by kernel_rfl⟩,by kernel_rfl,rfl,λh=>nomatch h⟩
theorem jId:TI.ok Tryz.prog 216 ⟨.struct [(0,9),(1,123)],3,56,.agg #[.string ⟨#[]⟩,.string ⟨#[]⟩,.slice none 0 0]⟩:=⟨⟨_,Tryz.underlying216,by kernel_rfl⟩,by kernel_rfl,rfl,λh=>nomatch h⟩
theorem jIe:TI.ok Tryz.prog 217 ⟨.fn,1,8,.nilFunc⟩:=⟨⟨_,_,_,Tryz.underlying217⟩,by kernel_rfl,rfl,λ_=>rfl⟩
theorem jIf:TI.ok Tryz.prog 218 ⟨.struct [(0,157),(1,41),(2,3)],3,56,.agg #[.slice none 0 0,.slice none 0 0,.int .i64 0]⟩:=⟨⟨_,Tryz.underlying218,by kernel_rfl⟩,by kernel_rfl,rfl,λh=>nomatch h⟩
theorem jIg:TI.ok Tryz.prog 219 ⟨.struct [(0,157),(1,41),(2,3)],3,56,.agg #[.slice none 0 0,.slice none 0 0,.int .i64 0]⟩:=⟨⟨_,Tryz.underlying219,by kernel_rfl⟩,by kernel_rfl,rfl,λh=>nomatch h⟩
theorem jIh:TI.ok Tryz.prog 220 ⟨.fn,1,8,.nilFunc⟩:=⟨⟨_,_,_,Tryz.underlying220⟩,by kernel_rfl,rfl,λ_=>rfl⟩
theorem jIi:TI.ok Tryz.prog 221 ⟨.fn,1,8,.nilFunc⟩:=⟨⟨_,_,_,Tryz.underlying221⟩,by kernel_rfl,rfl,λ_=>rfl⟩
theorem jIj:TI.ok Tryz.prog 222 ⟨.fn,1,8,.nilFunc⟩:=⟨⟨_,_,_,Tryz.underlying222⟩,by kernel_rfl,rfl,λ_=>rfl⟩
theorem jIk:TI.ok Tryz.prog 223 ⟨.fn,1,8,.nilFunc⟩:=⟨⟨_,_,_,Tryz.underlying223⟩,by kernel_rfl,rfl,λ_=>rfl⟩
theorem jIl:TI.ok Tryz.prog 224 ⟨.map 9 9,1,8,.map none⟩:=⟨Tryz.underlying224,by kernel_rfl,rfl,λ_=>rfl⟩
theorem jIm:TI.ok Tryz.prog 225 ⟨.fn,1,8,.nilFunc⟩:=⟨⟨_,_,_,Tryz.underlying225⟩,by kernel_rfl,rfl,λ_=>rfl⟩
theorem jIn:TI.ok Tryz.prog 226 ⟨.struct [(0,123),(2,123)],4,80,.agg #[.string ⟨#[]⟩,.slice none 0 0,.string ⟨#[]⟩,.slice none 0 0]⟩:=⟨⟨_,Tryz.underlying226,by kernel_rfl⟩,by kernel_rfl,rfl,λh=>nomatch h⟩
theorem jIo:TI.ok Tryz.prog 227 ⟨.struct [(0,123),(2,123)],4,80,.agg #[.string ⟨#[]⟩,.slice none 0 0,.string ⟨#[]⟩,.slice none 0 0]⟩:=⟨⟨_,Tryz.underlying227,by kernel_rfl⟩,by kernel_rfl,rfl,λh=>nomatch h⟩
theorem jIp:TI.ok Tryz.prog 228 ⟨.slice 227,1,24,.slice none 0 0⟩:=⟨Tryz.underlying228,by kernel_rfl,rfl,λ_=>rfl⟩
theorem jIq:TI.ok Tryz.prog 229 ⟨.fn,1,8,.nilFunc⟩:=⟨⟨_,_,_,Tryz.underlying229⟩,by kernel_rfl,rfl,λ_=>rfl⟩
theorem jIr:TI.ok Tryz.prog 230 ⟨.fn,1,8,.nilFunc⟩:=⟨⟨_,_,_,Tryz.underlying230⟩,by kernel_rfl,rfl,λ_=>rfl⟩
theorem jIs:TI.ok Tryz.prog 231 ⟨.slice 67,1,24,.slice none 0 0⟩:=⟨Tryz.underlying231,by kernel_rfl,rfl,λ_=>rfl⟩
theorem jIt:TI.ok Tryz.prog 232 ⟨.fn,1,8,.nilFunc⟩:=⟨⟨_,_,_,Tryz.underlying232⟩,by kernel_rfl,rfl,λ_=>rfl⟩
theorem jIu:TI.ok Tryz.prog 233 ⟨.fn,1,8,.nilFunc⟩:=⟨⟨_,_,_,Tryz.underlying233⟩,by kernel_rfl,rfl,λ_=>rfl⟩
theorem jIv:TI.ok Tryz.prog 234 ⟨.fn,1,8,.nilFunc⟩:=⟨⟨_,_,_,Tryz.underlying234⟩,by kernel_rfl,rfl,λ_=>rfl⟩
theorem jIw:TI.ok Tryz.prog 235 ⟨.fn,1,8,.nilFunc⟩:=⟨⟨_,_,_,Tryz.underlying235⟩,by kernel_rfl,rfl,λ_=>rfl⟩
theorem jIx:TI.ok Tryz.prog 236 ⟨.fn,1,8,.nilFunc⟩:=⟨⟨_,_,_,Tryz.underlying236⟩,by kernel_rfl,rfl,λ_=>rfl⟩
theorem jIy:TI.ok Tryz.prog 237 ⟨.map 9 123,1,8,.map none⟩:=⟨Tryz.underlying237,by kernel_rfl,rfl,λ_=>rfl⟩
theorem jIz:TI.ok Tryz.prog 238 ⟨.map 9 123,1,8,.map none⟩:=⟨Tryz.underlying238,by kernel_rfl,rfl,λ_=>rfl⟩
theorem jIA:TI.ok Tryz.prog 239 ⟨.fn,1,8,.nilFunc⟩:=⟨⟨_,_,_,Tryz.underlying239⟩,by kernel_rfl,rfl,λ_=>rfl⟩
theorem jIB:TI.ok Tryz.prog 240 ⟨.fn,1,8,.nilFunc⟩:=⟨⟨_,_,_,Tryz.underlying240⟩,by kernel_rfl,rfl,λ_=>rfl⟩
theorem jIC:TI.ok Tryz.prog 241 ⟨.fn,1,8,.nilFunc⟩:=⟨⟨_,_,_,Tryz.underlying241⟩,by kernel_rfl,rfl,λ_=>rfl⟩
theorem jID:TI.ok Tryz.prog 242 ⟨.fn,1,8,.nilFunc⟩:=⟨⟨_,_,_,Tryz.underlying242⟩,by kernel_rfl,rfl,λ_=>rfl⟩
theorem jIE:TI.ok Tryz.prog 243 ⟨.fn,1,8,.nilFunc⟩:=⟨⟨_,_,_,Tryz.underlying243⟩,by kernel_rfl,rfl,λ_=>rfl⟩
theorem jIF:TI.ok Tryz.prog 244 ⟨.fn,1,8,.nilFunc⟩:=⟨⟨_,_,_,Tryz.underlying244⟩,by kernel_rfl,rfl,λ_=>rfl⟩
theorem jIG:TI.ok Tryz.prog 245 ⟨.fn,1,8,.nilFunc⟩:=⟨⟨_,_,_,Tryz.underlying245⟩,by kernel_rfl,rfl,λ_=>rfl⟩
theorem jIH:TI.ok Tryz.prog 246 ⟨.fn,1,8,.nilFunc⟩:=⟨⟨_,_,_,Tryz.underlying246⟩,by kernel_rfl,rfl,λ_=>rfl⟩
theorem jII:TI.ok Tryz.prog 247 ⟨.fn,1,8,.nilFunc⟩:=⟨⟨_,_,_,Tryz.underlying247⟩,by kernel_rfl,rfl,λ_=>rfl⟩
theorem jIJ:TI.ok Tryz.prog 248 ⟨.fn,1,8,.nilFunc⟩:=⟨⟨_,_,_,Tryz.underlying248⟩,by kernel_rfl,rfl,λ_=>rfl⟩
theorem jIK:TI.ok Tryz.prog 249 ⟨.fn,1,8,.nilFunc⟩:=⟨⟨_,_,_,Tryz.underlying249⟩,by kernel_rfl,rfl,λ_=>rfl⟩
theorem jIL:TI.ok Tryz.prog 250 ⟨.fn,1,8,.nilFunc⟩:=⟨⟨_,_,_,Tryz.underlying250⟩,by kernel_rfl,rfl,λ_=>rfl⟩
theorem jIM:TI.ok Tryz.prog 251 ⟨.fn,1,8,.nilFunc⟩:=⟨⟨_,_,_,Tryz.underlying251⟩,by kernel_rfl,rfl,λ_=>rfl⟩
theorem jIN:TI.ok Tryz.prog 252 ⟨.fn,1,8,.nilFunc⟩:=⟨⟨_,_,_,Tryz.underlying252⟩,by kernel_rfl,rfl,λ_=>rfl⟩
theorem jIO:TI.ok Tryz.prog 253 ⟨.fn,1,8,.nilFunc⟩:=⟨⟨_,_,_,Tryz.underlying253⟩,by kernel_rfl,rfl,λ_=>rfl⟩
theorem jIP:TI.ok Tryz.prog 254 ⟨.fn,1,8,.nilFunc⟩:=⟨⟨_,_,_,Tryz.underlying254⟩,by kernel_rfl,rfl,λ_=>rfl⟩
theorem jIQ:TI.ok Tryz.prog 255 ⟨.fn,1,8,.nilFunc⟩:=⟨⟨_,_,_,Tryz.underlying255⟩,by kernel_rfl,rfl,λ_=>rfl⟩
theorem jIR:TI.ok Tryz.prog 256 ⟨.fn,1,8,.nilFunc⟩:=⟨⟨_,_,_,Tryz.underlying256⟩,by kernel_rfl,rfl,λ_=>rfl⟩
theorem jIS:TI.ok Tryz.prog 257 ⟨.fn,1,8,.nilFunc⟩:=⟨⟨_,_,_,Tryz.underlying257⟩,by kernel_rfl,rfl,λ_=>rfl⟩
theorem jIT:TI.ok Tryz.prog 258 ⟨.fn,1,8,.nilFunc⟩:=⟨⟨_,_,_,Tryz.underlying258⟩,by kernel_rfl,rfl,λ_=>rfl⟩
theorem jIU:TI.ok Tryz.prog 259 ⟨.fn,1,8,.nilFunc⟩:=⟨⟨_,_,_,Tryz.underlying259⟩,by kernel_rfl,rfl,λ_=>rfl⟩
theorem jIV:TI.ok Tryz.prog 261 ⟨.fn,1,8,.nilFunc⟩:=⟨⟨_,_,_,Tryz.underlying261⟩,by kernel_rfl,rfl,λ_=>rfl⟩
theorem jIW:TI.ok Tryz.prog 262 ⟨.fn,1,8,.nilFunc⟩:=⟨⟨_,_,_,Tryz.underlying262⟩,by kernel_rfl,rfl,λ_=>rfl⟩
theorem jIX:TI.ok Tryz.prog 263 ⟨.fn,1,8,.nilFunc⟩:=⟨⟨_,_,_,Tryz.underlying263⟩,by kernel_rfl,rfl,λ_=>rfl⟩
theorem jIY:TI.ok Tryz.prog 264 ⟨.fn,1,8,.nilFunc⟩:=⟨⟨_,_,_,Tryz.underlying264⟩,by kernel_rfl,rfl,λ_=>rfl⟩
theorem jIZ:TI.ok Tryz.prog 265 ⟨.fn,1,8,.nilFunc⟩:=⟨⟨_,_,_,Tryz.underlying265⟩,by kernel_rfl,rfl,λ_=>rfl⟩
theorem jI0:TI.ok Tryz.prog 266 ⟨.fn,1,8,.nilFunc⟩:=⟨⟨_,_,_,Tryz.underlying266⟩,by kernel_rfl,rfl,λ_=>rfl⟩
theorem jI1:TI.ok Tryz.prog 267 ⟨.fn,1,8,.nilFunc⟩:=⟨⟨_,_,_,Tryz.underlying267⟩,by kernel_rfl,rfl,λ_=>rfl⟩
theorem jI2:TI.ok Tryz.prog 268 ⟨.fn,1,8,.nilFunc⟩:=⟨⟨_,_,_,Tryz.underlying268⟩,by kernel_rfl,rfl,λ_=>rfl⟩
theorem jI3:TI.ok Tryz.prog 269 ⟨.fn,1,8,.nilFunc⟩:=⟨⟨_,_,_,Tryz.underlying269⟩,by kernel_rfl,rfl,λ_=>rfl⟩
theorem jI4:TI.ok Tryz.prog 270 ⟨.slice 300,1,24,.slice none 0 0⟩:=⟨Tryz.underlying270,by kernel_rfl,rfl,λ_=>rfl⟩
theorem jI5:TI.ok Tryz.prog 272 ⟨.fn,1,8,.nilFunc⟩:=⟨⟨_,_,_,Tryz.underlying272⟩,by kernel_rfl,rfl,λ_=>rfl⟩
theorem jI6:TI.ok Tryz.prog 273 ⟨.fn,1,8,.nilFunc⟩:=⟨⟨_,_,_,Tryz.underlying273⟩,by kernel_rfl,rfl,λ_=>rfl⟩
theorem jI7:TI.ok Tryz.prog 274 ⟨.fn,1,8,.nilFunc⟩:=⟨⟨_,_,_,Tryz.underlying274⟩,by kernel_rfl,rfl,λ_=>rfl⟩
theorem jI8:TI.ok Tryz.prog 275 ⟨.fn,1,8,.nilFunc⟩:=⟨⟨_,_,_,Tryz.underlying275⟩,by kernel_rfl,rfl,λ_=>rfl⟩
theorem jI9:TI.ok Tryz.prog 277 ⟨.fn,1,8,.nilFunc⟩:=⟨⟨_,_,_,Tryz.underlying277⟩,by kernel_rfl,rfl,λ_=>rfl⟩
theorem jJa:TI.ok Tryz.prog 279 ⟨.fn,1,8,.nilFunc⟩:=⟨⟨_,_,_,Tryz.underlying279⟩,by kernel_rfl,rfl,λ_=>rfl⟩
theorem jJb:TI.ok Tryz.prog 281 ⟨.fn,1,8,.nilFunc⟩:=⟨⟨_,_,_,Tryz.underlying281⟩,by kernel_rfl,rfl,λ_=>rfl⟩
theorem jJc:TI.ok Tryz.prog 282 ⟨.fn,1,8,.nilFunc⟩:=⟨⟨_,_,_,Tryz.underlying282⟩,by kernel_rfl,rfl,λ_=>rfl⟩
theorem jJd:TI.ok Tryz.prog 283 ⟨.fn,1,8,.nilFunc⟩:=⟨⟨_,_,_,Tryz.underlying283⟩,by kernel_rfl,rfl,λ_=>rfl⟩
theorem jJe:TI.ok Tryz.prog 284 ⟨.fn,1,8,.nilFunc⟩:=⟨⟨_,_,_,Tryz.underlying284⟩,by kernel_rfl,rfl,λ_=>rfl⟩
theorem jJf:TI.ok Tryz.prog 285 ⟨.fn,1,8,.nilFunc⟩:=⟨⟨_,_,_,Tryz.underlying285⟩,by kernel_rfl,rfl,λ_=>rfl⟩
theorem jJg:TI.ok Tryz.prog 286 ⟨.fn,1,8,.nilFunc⟩:=⟨⟨_,_,_,Tryz.underlying286⟩,by kernel_rfl,rfl,λ_=>rfl⟩
theorem jJh:TI.ok Tryz.prog 287 ⟨.fn,1,8,.nilFunc⟩:=⟨⟨_,_,_,Tryz.underlying287⟩,by kernel_rfl,rfl,λ_=>rfl⟩
theorem jJi:TI.ok Tryz.prog 288 ⟨.fn,1,8,.nilFunc⟩:=⟨⟨_,_,_,Tryz.underlying288⟩,by kernel_rfl,rfl,λ_=>rfl⟩
theorem jJj:TI.ok Tryz.prog 289 ⟨.fn,1,8,.nilFunc⟩:=⟨⟨_,_,_,Tryz.underlying289⟩,by kernel_rfl,rfl,λ_=>rfl⟩
theorem jJk:TI.ok Tryz.prog 290 ⟨.fn,1,8,.nilFunc⟩:=⟨⟨_,_,_,Tryz.underlying290⟩,by kernel_rfl,rfl,λ_=>rfl⟩
theorem jJl:TI.ok Tryz.prog 292 ⟨.fn,1,8,.nilFunc⟩:=⟨⟨_,_,_,Tryz.underlying292⟩,by kernel_rfl,rfl,λ_=>rfl⟩
theorem jJm:TI.ok Tryz.prog 294 ⟨.fn,1,8,.nilFunc⟩:=⟨⟨_,_,_,Tryz.underlying294⟩,by kernel_rfl,rfl,λ_=>rfl⟩
theorem jJn:TI.ok Tryz.prog 296 ⟨.fn,1,8,.nilFunc⟩:=⟨⟨_,_,_,Tryz.underlying296⟩,by kernel_rfl,rfl,λ_=>rfl⟩
theorem jJo:TI.ok Tryz.prog 297 ⟨.fn,1,8,.nilFunc⟩:=⟨⟨_,_,_,Tryz.underlying297⟩,by kernel_rfl,rfl,λ_=>rfl⟩
theorem jJp:TI.ok Tryz.prog 298 ⟨.fn,1,8,.nilFunc⟩:=⟨⟨_,_,_,Tryz.underlying298⟩,by kernel_rfl,rfl,λ_=>rfl⟩
theorem jJq:TI.ok Tryz.prog 299 ⟨.struct [(0,9),(1,123)],3,56,.agg #[.string ⟨#[]⟩,.string ⟨#[]⟩,.slice none 0 0]⟩:=⟨⟨_,Tryz.underlying299,by kernel_rfl⟩,by kernel_rfl,rfl,λh=>nomatch h⟩
theorem jJr:TI.ok Tryz.prog 300 ⟨.struct [(0,9),(1,123)],3,56,.agg #[.string ⟨#[]⟩,.string ⟨#[]⟩,.slice none 0 0]⟩:=⟨⟨_,Tryz.underlying300,by kernel_rfl⟩,by kernel_rfl,rfl,λh=>nomatch h⟩
theorem jJs:TI.ok Tryz.prog 301 ⟨.fn,1,8,.nilFunc⟩:=⟨⟨_,_,_,Tryz.underlying301⟩,by kernel_rfl,rfl,λ_=>rfl⟩
theorem jJt:TI.ok Tryz.prog 304 ⟨.fn,1,8,.nilFunc⟩:=⟨⟨_,_,_,Tryz.underlying304⟩,by kernel_rfl,rfl,λ_=>rfl⟩
theorem jJu:TI.ok Tryz.prog 305 ⟨.fn,1,8,.nilFunc⟩:=⟨⟨_,_,_,Tryz.underlying305⟩,by kernel_rfl,rfl,λ_=>rfl⟩
theorem jJv:TI.ok Tryz.prog 306 ⟨.fn,1,8,.nilFunc⟩:=⟨⟨_,_,_,Tryz.underlying306⟩,by kernel_rfl,rfl,λ_=>rfl⟩
theorem jJw:TI.ok Tryz.prog 307 ⟨.fn,1,8,.nilFunc⟩:=⟨⟨_,_,_,Tryz.underlying307⟩,by kernel_rfl,rfl,λ_=>rfl⟩
theorem jJx:TI.ok Tryz.prog 308 ⟨.fn,1,8,.nilFunc⟩:=⟨⟨_,_,_,Tryz.underlying308⟩,by kernel_rfl,rfl,λ_=>rfl⟩
theorem jJy:TI.ok Tryz.prog 309 ⟨.fn,1,8,.nilFunc⟩:=⟨⟨_,_,_,Tryz.underlying309⟩,by kernel_rfl,rfl,λ_=>rfl⟩
theorem jJz:TI.ok Tryz.prog 310 ⟨.fn,1,8,.nilFunc⟩:=⟨⟨_,_,_,Tryz.underlying310⟩,by kernel_rfl,rfl,λ_=>rfl⟩
theorem jJA:TI.ok Tryz.prog 311 ⟨.fn,1,8,.nilFunc⟩:=⟨⟨_,_,_,Tryz.underlying311⟩,by kernel_rfl,rfl,λ_=>rfl⟩
theorem jJB:TI.ok Tryz.prog 312 ⟨.fn,1,8,.nilFunc⟩:=⟨⟨_,_,_,Tryz.underlying312⟩,by kernel_rfl,rfl,λ_=>rfl⟩
theorem jJC:TI.ok Tryz.prog 313 ⟨.fn,1,8,.nilFunc⟩:=⟨⟨_,_,_,Tryz.underlying313⟩,by kernel_rfl,rfl,λ_=>rfl⟩
theorem jJD:TI.ok Tryz.prog 314 ⟨.fn,1,8,.nilFunc⟩:=⟨⟨_,_,_,Tryz.underlying314⟩,by kernel_rfl,rfl,λ_=>rfl⟩
theorem jJE:TI.ok Tryz.prog 315 ⟨.fn,1,8,.nilFunc⟩:=⟨⟨_,_,_,Tryz.underlying315⟩,by kernel_rfl,rfl,λ_=>rfl⟩
theorem jJF:TI.ok Tryz.prog 316 ⟨.fn,1,8,.nilFunc⟩:=⟨⟨_,_,_,Tryz.underlying316⟩,by kernel_rfl,rfl,λ_=>rfl⟩
theorem jJG:TI.ok Tryz.prog 317 ⟨.fn,1,8,.nilFunc⟩:=⟨⟨_,_,_,Tryz.underlying317⟩,by kernel_rfl,rfl,λ_=>rfl⟩
theorem jJH:TI.ok Tryz.prog 318 ⟨.fn,1,8,.nilFunc⟩:=⟨⟨_,_,_,Tryz.underlying318⟩,by kernel_rfl,rfl,λ_=>rfl⟩
theorem jJI:TI.ok Tryz.prog 319 ⟨.fn,1,8,.nilFunc⟩:=⟨⟨_,_,_,Tryz.underlying319⟩,by kernel_rfl,rfl,λ_=>rfl⟩
theorem jJJ:TI.ok Tryz.prog 320 ⟨.fn,1,8,.nilFunc⟩:=⟨⟨_,_,_,Tryz.underlying320⟩,by kernel_rfl,rfl,λ_=>rfl⟩
theorem jJK:TI.ok Tryz.prog 323 ⟨.fn,1,8,.nilFunc⟩:=⟨⟨_,_,_,Tryz.underlying323⟩,by kernel_rfl,rfl,λ_=>rfl⟩
theorem jJL:TI.ok Tryz.prog 324 ⟨.fn,1,8,.nilFunc⟩:=⟨⟨_,_,_,Tryz.underlying324⟩,by kernel_rfl,rfl,λ_=>rfl⟩
theorem jJM:TI.ok Tryz.prog 325 ⟨.fn,1,8,.nilFunc⟩:=⟨⟨_,_,_,Tryz.underlying325⟩,by kernel_rfl,rfl,λ_=>rfl⟩
theorem jJN:TI.ok Tryz.prog 333 ⟨.fn,1,8,.nilFunc⟩:=⟨⟨_,_,_,Tryz.underlying333⟩,by kernel_rfl,rfl,λ_=>rfl⟩
theorem jJO:TI.ok Tryz.prog 334 ⟨.ptr 5,1,8,.pointer none⟩:=⟨Tryz.underlying334,by kernel_rfl,rfl,λ_=>rfl⟩
theorem jJP:TI.ok Tryz.prog 337 ⟨.struct [(0,12),(1,12),(2,146),(3,331),(4,5),(5,5),(6,332),(7,333),(8,334),(9,335),(10,336)],11,48,.agg #[.int .u64 0,.int .u64 0,.int .u32 0,.int .u8 0,.int .u8 0,.int .u8 0,.int .u8 0,.nilFunc,.pointer none,.int .i32 0,.int .i32 0]⟩:=⟨⟨_,Tryz.underlying337,by kernel_rfl⟩,by kernel_rfl,rfl,λh=>nomatch h⟩
theorem jJQ:TI.ok Tryz.prog 339 ⟨.fn,1,8,.nilFunc⟩:=⟨⟨_,_,_,Tryz.underlying339⟩,by kernel_rfl,rfl,λ_=>rfl⟩
def jDr:List (Option TI):=[none,some ⟨.fn,1,8,.nilFunc⟩,some ⟨.int .i64,1,8,.int .i64 0⟩,some ⟨.int .i64,1,8,.int .i64 0⟩,some ⟨.bool,1,1,.bool false⟩,some ⟨.int .u8,1,1,.int .u8 0⟩,none,none,none,some ⟨.str,1,16,.string ⟨#[]⟩⟩,none,none,some ⟨.int .u64,1,8,.int .u64 0⟩,none,none,none,none,some ⟨.ptr 338,1,8,.pointer none⟩,none,none,none,some ⟨.int .i32,1,4,.int .i32 0⟩,some ⟨.slice 89,1,24,.slice none 0 0⟩,some ⟨.slice 92,1,24,.slice none 0 0⟩,some ⟨.struct [(0,22),(1,23)],2,48,.agg #[.slice none 0 0,.slice none 0 0]⟩,some ⟨.struct [(0,22),(1,23)],2,48,.agg #[.slice none 0 0,.slice none 0 0]⟩,some ⟨.fn,1,8,.nilFunc⟩,none,some ⟨.fn,1,8,.nilFunc⟩,some ⟨.slice 69,1,24,.slice none 0 0⟩,some ⟨.slice 71,1,24,.slice none 0 0⟩,some ⟨.struct [(0,29),(1,30)],2,48,.agg #[.slice none 0 0,.slice none 0 0]⟩,some ⟨.struct [(0,29),(1,30)],2,48,.agg #[.slice none 0 0,.slice none 0 0]⟩,some ⟨.fn,1,8,.nilFunc⟩,some ⟨.fn,1,8,.nilFunc⟩,some ⟨.fn,1,8,.nilFunc⟩,some ⟨.fn,1,8,.nilFunc⟩,some ⟨.fn,1,8,.nilFunc⟩,none,some ⟨.fn,1,8,.nilFunc⟩,some ⟨.fn,1,8,.nilFunc⟩,some ⟨.slice 3,1,24,.slice none 0 0⟩,some ⟨.struct [(0,25),(2,41),(3,41),(4,4)],5,104,.agg #[.slice none 0 0,.slice none 0 0,.slice none 0 0,.slice none 0 0,.bool false]⟩,some ⟨.struct [(0,25),(2,41),(3,41),(4,4)],5,104,.agg #[.slice none 0 0,.slice none 0 0,.slice none 0 0,.slice none 0 0,.bool false]⟩,some ⟨.fn,1,8,.nilFunc⟩,some ⟨.fn,1,8,.nilFunc⟩,some ⟨.struct [(0,32),(2,41),(3,41),(4,4)],5,104,.agg #[.slice none 0 0,.slice none 0 0,.slice none 0 0,.slice none 0 0,.bool false]⟩,some ⟨.struct [(0,32),(2,41),(3,41),(4,4)],5,104,.agg #[.slice none 0 0,.slice none 0 0,.slice none 0 0,.slice none 0 0,.bool false]⟩,some ⟨.fn,1,8,.nilFunc⟩,some ⟨.fn,1,8,.nilFunc⟩,some ⟨.fn,1,8,.nilFunc⟩,none,some ⟨.fn,1,8,.nilFunc⟩,some ⟨.fn,1,8,.nilFunc⟩,some ⟨.fn,1,8,.nilFunc⟩,some ⟨.fn,1,8,.nilFunc⟩,some ⟨.fn,1,8,.nilFunc⟩,some ⟨.fn,1,8,.nilFunc⟩,some ⟨.fn,1,8,.nilFunc⟩,some ⟨.fn,1,8,.nilFunc⟩,some ⟨.fn,1,8,.nilFunc⟩,some ⟨.fn,1,8,.nilFunc⟩,some ⟨.fn,1,8,.nilFunc⟩,some ⟨.fn,1,8,.nilFunc⟩,some ⟨.fn,1,8,.nilFunc⟩,some ⟨.fn,1,8,.nilFunc⟩,some ⟨.fn,1,8,.nilFunc⟩,some ⟨.slice 125,1,24,.slice none 0 0⟩,some ⟨.struct [(0,67)],1,24,.agg #[.slice none 0 0]⟩,some ⟨.struct [(0,67)],1,24,.agg #[.slice none 0 0]⟩,some ⟨.struct [(0,3),(1,41),(2,41),(3,69)],4,80,.agg #[.int .i64 0,.slice none 0 0,.slice none 0 0,.slice none 0 0]⟩,some ⟨.struct [(0,3),(1,41),(2,41),(3,69)],4,80,.agg #[.int .i64 0,.slice none 0 0,.slice none 0 0,.slice none 0 0]⟩,some ⟨.fn,1,8,.nilFunc⟩,some ⟨.fn,1,8,.nilFunc⟩,some ⟨.fn,1,8,.nilFunc⟩,some ⟨.fn,1,8,.nilFunc⟩,some ⟨.map 3 4,1,8,.map none⟩,some ⟨.fn,1,8,.nilFunc⟩,some ⟨.fn,1,8,.nilFunc⟩,some ⟨.fn,1,8,.nilFunc⟩,some ⟨.fn,1,8,.nilFunc⟩,some ⟨.fn,1,8,.nilFunc⟩,some ⟨.fn,1,8,.nilFunc⟩,some ⟨.fn,1,8,.nilFunc⟩,some ⟨.fn,1,8,.nilFunc⟩,some ⟨.fn,1,8,.nilFunc⟩,some ⟨.fn,1,8,.nilFunc⟩,some ⟨.slice 154,1,24,.slice none 0 0⟩,some ⟨.struct [(0,87)],1,24,.agg #[.slice none 0 0]⟩,some ⟨.struct [(0,87)],1,24,.agg #[.slice none 0 0]⟩,some ⟨.fn,1,8,.nilFunc⟩,some ⟨.struct [(0,3),(1,41),(2,41),(3,89)],4,80,.agg #[.int .i64 0,.slice none 0 0,.slice none 0 0,.slice none 0 0]⟩,some ⟨.struct [(0,3),(1,41),(2,41),(3,89)],4,80,.agg #[.int .i64 0,.slice none 0 0,.slice none 0 0,.slice none 0 0]⟩,some ⟨.fn,1,8,.nilFunc⟩,none,some ⟨.fn,1,8,.nilFunc⟩,some ⟨.fn,1,8,.nilFunc⟩,some ⟨.fn,1,8,.nilFunc⟩,some ⟨.fn,1,8,.nilFunc⟩,some ⟨.fn,1,8,.nilFunc⟩,some ⟨.fn,1,8,.nilFunc⟩,some ⟨.fn,1,8,.nilFunc⟩,some ⟨.fn,1,8,.nilFunc⟩,some ⟨.fn,1,8,.nilFunc⟩,some ⟨.fn,1,8,.nilFunc⟩,some ⟨.slice 41,1,24,.slice none 0 0⟩,some ⟨.fn,1,8,.nilFunc⟩,some ⟨.slice 4,1,24,.slice none 0 0⟩,some ⟨.fn,1,8,.nilFunc⟩,some ⟨.fn,1,8,.nilFunc⟩,some ⟨.ptr 47,1,8,.pointer none⟩,some ⟨.fn,1,8,.nilFunc⟩,some ⟨.fn,1,8,.nilFunc⟩,some ⟨.fn,1,8,.nilFunc⟩,some ⟨.int .u64,1,8,.int .u64 0⟩,some ⟨.fn,1,8,.nilFunc⟩,some ⟨.fn,1,8,.nilFunc⟩,some ⟨.fn,1,8,.nilFunc⟩,some ⟨.fn,1,8,.nilFunc⟩,some ⟨.fn,1,8,.nilFunc⟩,some ⟨.fn,1,8,.nilFunc⟩,some ⟨.slice 123,1,24,.slice none 0 0⟩,some ⟨.struct [(0,9),(1,121)],2,40,.agg #[.string ⟨#[]⟩,.slice none 0 0]⟩,some ⟨.struct [(0,9),(1,121)],2,40,.agg #[.string ⟨#[]⟩,.slice none 0 0]⟩,some ⟨.struct [(0,4),(1,123)],3,48,.agg #[.bool false,.string ⟨#[]⟩,.slice none 0 0]⟩,some ⟨.struct [(0,4),(1,123)],3,48,.agg #[.bool false,.string ⟨#[]⟩,.slice none 0 0]⟩,some ⟨.fn,1,8,.nilFunc⟩,some ⟨.fn,1,8,.nilFunc⟩,some ⟨.fn,1,8,.nilFunc⟩,some ⟨.fn,1,8,.nilFunc⟩,none,some ⟨.fn,1,8,.nilFunc⟩,some ⟨.fn,1,8,.nilFunc⟩,some ⟨.fn,1,8,.nilFunc⟩,some ⟨.fn,1,8,.nilFunc⟩,some ⟨.fn,1,8,.nilFunc⟩,some ⟨.fn,1,8,.nilFunc⟩,some ⟨.fn,1,8,.nilFunc⟩,some ⟨.fn,1,8,.nilFunc⟩,some ⟨.fn,1,8,.nilFunc⟩,some ⟨.int .i64,1,8,.int .i64 0⟩,none,some ⟨.fn,1,8,.nilFunc⟩,some ⟨.fn,1,8,.nilFunc⟩,some ⟨.fn,1,8,.nilFunc⟩,some ⟨.fn,1,8,.nilFunc⟩,some ⟨.int .u32,1,4,.int .u32 0⟩,some ⟨.fn,1,8,.nilFunc⟩,some ⟨.int .u64,1,8,.int .u64 0⟩,some ⟨.fn,1,8,.nilFunc⟩,some ⟨.slice 152,1,24,.slice none 0 0⟩,some ⟨.struct [(0,9),(1,150)],2,40,.agg #[.string ⟨#[]⟩,.slice none 0 0]⟩,some ⟨.struct [(0,9),(1,150)],2,40,.agg #[.string ⟨#[]⟩,.slice none 0 0]⟩,some ⟨.struct [(0,4),(1,152)],3,48,.agg #[.bool false,.string ⟨#[]⟩,.slice none 0 0]⟩,some ⟨.struct [(0,4),(1,152)],3,48,.agg #[.bool false,.string ⟨#[]⟩,.slice none 0 0]⟩,some ⟨.fn,1,8,.nilFunc⟩,some ⟨.fn,1,8,.nilFunc⟩,some ⟨.slice 9,1,24,.slice none 0 0⟩,some ⟨.fn,1,8,.nilFunc⟩,some ⟨.fn,1,8,.nilFunc⟩,some ⟨.fn,1,8,.nilFunc⟩,some ⟨.fn,1,8,.nilFunc⟩,none,some ⟨.fn,1,8,.nilFunc⟩,some ⟨.fn,1,8,.nilFunc⟩,some ⟨.slice 216,1,24,.slice none 0 0⟩,some ⟨.struct [(0,165)],1,24,.agg #[.slice none 0 0]⟩,some ⟨.struct [(0,165)],1,24,.agg #[.slice none 0 0]⟩,some ⟨.slice 5,1,24,.slice none 0 0⟩,some ⟨.int .u64,1,8,.int .u64 0⟩,some ⟨.fn,1,8,.nilFunc⟩,some ⟨.fn,1,8,.nilFunc⟩,some ⟨.fn,1,8,.nilFunc⟩,some ⟨.ptr 3,1,8,.pointer none⟩,some ⟨.fn,1,8,.nilFunc⟩,some ⟨.fn,1,8,.nilFunc⟩,some ⟨.fn,1,8,.nilFunc⟩,some ⟨.fn,1,8,.nilFunc⟩,some ⟨.fn,1,8,.nilFunc⟩,some ⟨.fn,1,8,.nilFunc⟩,none,some ⟨.fn,1,8,.nilFunc⟩,some ⟨.fn,1,8,.nilFunc⟩,some ⟨.fn,1,8,.nilFunc⟩,none,some ⟨.fn,1,8,.nilFunc⟩,some ⟨.fn,1,8,.nilFunc⟩,some ⟨.fn,1,8,.nilFunc⟩,some ⟨.fn,1,8,.nilFunc⟩,some ⟨.fn,1,8,.nilFunc⟩,some ⟨.fn,1,8,.nilFunc⟩,some ⟨.fn,1,8,.nilFunc⟩,some ⟨.fn,1,8,.nilFunc⟩,some ⟨.fn,1,8,.nilFunc⟩,some ⟨.fn,1,8,.nilFunc⟩,some ⟨.fn,1,8,.nilFunc⟩,some ⟨.fn,1,8,.nilFunc⟩,some ⟨.fn,1,8,.nilFunc⟩,some ⟨.fn,1,8,.nilFunc⟩,some ⟨.ptr 169,1,8,.pointer none⟩,none,some ⟨.fn,1,8,.nilFunc⟩,some ⟨.fn,1,8,.nilFunc⟩,some ⟨.fn,1,8,.nilFunc⟩,some ⟨.fn,1,8,.nilFunc⟩,some ⟨.fn,1,8,.nilFunc⟩,some ⟨.fn,1,8,.nilFunc⟩,some ⟨.fn,1,8,.nilFunc⟩,some ⟨.struct [(0,123),(2,123)],4,80,.agg #[.string ⟨#[]⟩,.slice none 0 0,.string ⟨#[]⟩,.slice none 0 0]⟩,some ⟨.struct [(0,123),(2,123)],4,80,.agg #[.string ⟨#[]⟩,.slice none 0 0,.string ⟨#[]⟩,.slice none 0 0]⟩,some ⟨.slice 209,1,24,.slice none 0 0⟩,some ⟨.fn,1,8,.nilFunc⟩,some ⟨.fn,1,8,.nilFunc⟩,some ⟨.fn,1,8,.nilFunc⟩,some ⟨.fn,1,8,.nilFunc⟩,some ⟨.struct [(0,9),(1,123)],3,56,.agg #[.string ⟨#[]⟩,.string ⟨#[]⟩,.slice none 0 0]⟩,some ⟨.struct [(0,9),(1,123)],3,56,.agg #[.string ⟨#[]⟩,.string ⟨#[]⟩,.slice none 0 0]⟩,some ⟨.fn,1,8,.nilFunc⟩,some ⟨.struct [(0,157),(1,41),(2,3)],3,56,.agg #[.slice none 0 0,.slice none 0 0,.int .i64 0]⟩,some ⟨.struct [(0,157),(1,41),(2,3)],3,56,.agg #[.slice none 0 0,.slice none 0 0,.int .i64 0]⟩,some ⟨.fn,1,8,.nilFunc⟩,some ⟨.fn,1,8,.nilFunc⟩,some ⟨.fn,1,8,.nilFunc⟩,some ⟨.fn,1,8,.nilFunc⟩,some ⟨.map 9 9,1,8,.map none⟩,some ⟨.fn,1,8,.nilFunc⟩,some ⟨.struct [(0,123),(2,123)],4,80,.agg #[.string ⟨#[]⟩,.slice none 0 0,.string ⟨#[]⟩,.slice none 0 0]⟩,some ⟨.struct [(0,123),(2,123)],4,80,.agg #[.string ⟨#[]⟩,.slice none 0 0,.string ⟨#[]⟩,.slice none 0 0]⟩,some ⟨.slice 227,1,24,.slice none 0 0⟩,some ⟨.fn,1,8,.nilFunc⟩,some ⟨.fn,1,8,.nilFunc⟩,some ⟨.slice 67,1,24,.slice none 0 0⟩,some ⟨.fn,1,8,.nilFunc⟩,some ⟨.fn,1,8,.nilFunc⟩,some ⟨.fn,1,8,.nilFunc⟩,some ⟨.fn,1,8,.nilFunc⟩,some ⟨.fn,1,8,.nilFunc⟩,some ⟨.map 9 123,1,8,.map none⟩,some ⟨.map 9 123,1,8,.map none⟩,some ⟨.fn,1,8,.nilFunc⟩,some ⟨.fn,1,8,.nilFunc⟩,some ⟨.fn,1,8,.nilFunc⟩,some ⟨.fn,1,8,.nilFunc⟩,some ⟨.fn,1,8,.nilFunc⟩,some ⟨.fn,1,8,.nilFunc⟩,some ⟨.fn,1,8,.nilFunc⟩,some ⟨.fn,1,8,.nilFunc⟩,some ⟨.fn,1,8,.nilFunc⟩,some ⟨.fn,1,8,.nilFunc⟩,some ⟨.fn,1,8,.nilFunc⟩,some ⟨.fn,1,8,.nilFunc⟩,some ⟨.fn,1,8,.nilFunc⟩,some ⟨.fn,1,8,.nilFunc⟩,some ⟨.fn,1,8,.nilFunc⟩,some ⟨.fn,1,8,.nilFunc⟩,some ⟨.fn,1,8,.nilFunc⟩,some ⟨.fn,1,8,.nilFunc⟩,some ⟨.fn,1,8,.nilFunc⟩,some ⟨.fn,1,8,.nilFunc⟩,some ⟨.fn,1,8,.nilFunc⟩,none,some ⟨.fn,1,8,.nilFunc⟩,some ⟨.fn,1,8,.nilFunc⟩,some ⟨.fn,1,8,.nilFunc⟩,some ⟨.fn,1,8,.nilFunc⟩,some ⟨.fn,1,8,.nilFunc⟩,some ⟨.fn,1,8,.nilFunc⟩,some ⟨.fn,1,8,.nilFunc⟩,some ⟨.fn,1,8,.nilFunc⟩,some ⟨.fn,1,8,.nilFunc⟩,some ⟨.slice 300,1,24,.slice none 0 0⟩,none,some ⟨.fn,1,8,.nilFunc⟩,some ⟨.fn,1,8,.nilFunc⟩,some ⟨.fn,1,8,.nilFunc⟩,some ⟨.fn,1,8,.nilFunc⟩,none,some ⟨.fn,1,8,.nilFunc⟩,none,some ⟨.fn,1,8,.nilFunc⟩,none,some ⟨.fn,1,8,.nilFunc⟩,some ⟨.fn,1,8,.nilFunc⟩,some ⟨.fn,1,8,.nilFunc⟩,some ⟨.fn,1,8,.nilFunc⟩,some ⟨.fn,1,8,.nilFunc⟩,some ⟨.fn,1,8,.nilFunc⟩,some ⟨.fn,1,8,.nilFunc⟩,some ⟨.fn,1,8,.nilFunc⟩,some ⟨.fn,1,8,.nilFunc⟩,some ⟨.fn,1,8,.nilFunc⟩,none,some ⟨.fn,1,8,.nilFunc⟩,none,some ⟨.fn,1,8,.nilFunc⟩,none,some ⟨.fn,1,8,.nilFunc⟩,some ⟨.fn,1,8,.nilFunc⟩,some ⟨.fn,1,8,.nilFunc⟩,some ⟨.struct [(0,9),(1,123)],3,56,.agg #[.string ⟨#[]⟩,.string ⟨#[]⟩,.slice none 0 0]⟩,some ⟨.struct [(0,9),(1,123)],3,56,.agg #[.string ⟨#[]⟩,.string ⟨#[]⟩,.slice none 0 0]⟩,some ⟨.fn,1,8,.nilFunc⟩,none,none,some ⟨.fn,1,8,.nilFunc⟩,some ⟨.fn,1,8,.nilFunc⟩,some ⟨.fn,1,8,.nilFunc⟩,some ⟨.fn,1,8,.nilFunc⟩,some ⟨.fn,1,8,.nilFunc⟩,some ⟨.fn,1,8,.nilFunc⟩,some ⟨.fn,1,8,.nilFunc⟩,some ⟨.fn,1,8,.nilFunc⟩,some ⟨.fn,1,8,.nilFunc⟩,some ⟨.fn,1,8,.nilFunc⟩,some ⟨.fn,1,8,.nilFunc⟩,some ⟨.fn,1,8,.nilFunc⟩,some ⟨.fn,1,8,.nilFunc⟩,some ⟨.fn,1,8,.nilFunc⟩,some ⟨.fn,1,8,.nilFunc⟩,some ⟨.fn,1,8,.nilFunc⟩,some ⟨.fn,1,8,.nilFunc⟩,none,none,some ⟨.fn,1,8,.nilFunc⟩,some ⟨.fn,1,8,.nilFunc⟩,some ⟨.fn,1,8,.nilFunc⟩,none,none,none,none,none,none,none,some ⟨.fn,1,8,.nilFunc⟩,some ⟨.ptr 5,1,8,.pointer none⟩,none,none,some ⟨.struct [(0,12),(1,12),(2,146),(3,331),(4,5),(5,5),(6,332),(7,333),(8,334),(9,335),(10,336)],11,48,.agg #[.int .u64 0,.int .u64 0,.int .u32 0,.int .u8 0,.int .u8 0,.int .u8 0,.int .u8 0,.nilFunc,.pointer none,.int .i32 0,.int .i32 0]⟩,none,some ⟨.fn,1,8,.nilFunc⟩]
set_option maxRecDepth 100000 in
theorem jOs:JS Tryz.prog (tyD jDr):=je6.ok ⟨ty1,ty2,ty3,ty4,ty5,ty9,jNd,jNe,jNf,jNg,jNh,jNi,jNj,jNk,jNl,jNm,jNn,jNo,jNp,jNq,jNr,jNs,jNt,jNu,jNv,jNw,jNx,jNy,jNz,jNA,jNB,jNC,jND,jNE,jNF,jNG,jNH,jNI,jNJ,jNK,jNL,jNM,jNN,jNO,jNP,jNQ,jNR,jNS,jNT,jNU,jNV,jNW,jNX,jNY,jNZ,jN0,jN1,jN2,jN3,jN4,jN5,jN6,jN7,jN8,jN9,jOa,jOb,jOc,jOd,jOe,jOf,jOg,jOh,jOi,jOj,jOk,jOl,jOm,jOn,jOo,jOp,jOq,jOr,jGr,jGs,jGt,jGu,jGv,jGw,jGx,jGy,jGz,jGA,jGB,jGC,jGD,jGE,jGF,jGG,jGH,jGI,jGJ,jGK,jGL,jGM,jGN,jGO,jGP,jGQ,jGR,jGS,jGT,jGU,jGV,jGW,jGX,jGY,jGZ,jG0,jG1,jG2,jG3,jG4,jG5,jG6,jG7,jG8,jG9,jHa,jHb,jHc,jHd,jHe,jHf,jHg,jHh,jHi,jHj,jHk,jHl,jHm,jHn,jHo,jHp,jHq,jHr,jHs,jHt,jHu,jHv,jHw,jHx,jHy,jHz,jHA,jHB,jHC,jHD,jHE,jHF,jHG,jHH,jHI,jHJ,jHK,jHL,jHM,jHN,jHO,jHP,jHQ,jHR,jHS,jHT,jHU,jHV,jHW,jHX,jHY,jHZ,jH0,jH1,jH2,jH3,jH4,jH5,jH6,jH7,jH8,jH9,jIa,jIb,jIc,jId,jIe,jIf,jIg,jIh,jIi,jIj,jIk,jIl,jIm,jIn,jIo,jIp,jIq,jIr,jIs,jIt,jIu,jIv,jIw,jIx,jIy,jIz,jIA,jIB,jIC,jID,jIE,jIF,jIG,jIH,jII,jIJ,jIK,jIL,jIM,jIN,jIO,jIP,jIQ,jIR,jIS,jIT,jIU,jIV,jIW,jIX,jIY,jIZ,jI0,jI1,jI2,jI3,jI4,jI5,jI6,jI7,jI8,jI9,jJa,jJb,jJc,jJd,jJe,jJf,jJg,jJh,jJi,jJj,jJk,jJl,jJm,jJn,jJo,jJp,jJq,jJr,jJs,jJt,jJu,jJv,jJw,jJx,jJy,jJz,jJA,jJB,jJC,jJD,jJE,jJF,jJG,jJH,jJI,jJJ,jJK,jJL,jJM,jJN,jJO,jJP,jJQ,trivial⟩
open Go Go.RowKit Go.Proofs.YtoaifmomhaneiaaGreatDoor.Abs
def jF3:List (Nat × List (List Nat × Nat)):=[(23,[([1,1,1,0,1,0],198),([1,1,1,0,1,0,0,1,0,0,1,0],454)]),(24,[([1,1,1,0,1,0],14680130),([1,1,1,0,1,0,0,1,1,0,0,1,1,0,1,0],1893728834)]),(28,[([1,1,1,0,1,0],58720266)]),(32,[([1,1,0,1,0],35)]),(34,[([1,0,1,0],35)]),(35,[([1,0,1,0],35)]),(38,[([1,1,1,1,0,1,0],452)]),(39,[([1,1,1,1,0,1,0],7340292)]),(40,[([1,1,1,0,1,0],35)]),(41,[([1,1,1,0,1,0],35)]),(42,[([1,1,0,1,0],10)]),(44,[([1,1,0,1,0],102)]),(45,[([1,1,0,1,0],25)]),(46,[([1,1,0,1,0],25)]),(50,[([1,1,0,1,0],35)]),(51,[([1,1,0,1,0],35)]),(53,[([1,0,1,0],194)]),(55,[([1,0,1,0],10)]),(59,[([1,1,1,0,1,0],26)]),(60,[([1,1,0,1,0],25)]),(61,[([1,1,0,1,0],3593),([1,1,1,1,0,1,0],234881088)]),(62,[([1,0,1,0],9)]),(63,[([1,1,1,0,1,0],102),([1,1,1,0,1,0,0,1,0,0,1,0],230),([1,1,1,1,1,0,1,0],802)]),(64,[([1,1,1,1,0,1,0],228),([1,1,1,1,0,1,0,0,1,0,0,1,1,1,0],962072674532)]),(65,[([1,0,1,0],35)]),(66,[([1,0,1,0],35)]),(67,[([1,1,0,1,0],26)]),(68,[([1,1,0,1,0],229385)]),(69,[([1,1,0,0],35)]),(71,[([1,1,0,1,0],9),([1,1,0,1,0,0,1,0,0,1,0,1,0,1,0],57)]),(76,[([1,1,0,1,0],44)]),(86,[([1,0,1,0],135)]),(87,[([1,0,1,0],35)]),(90,[([1,0],13)]),(91,[([1,0,1,0],35)]),(92,[([1,1,0,1,0],26)]),(93,[([1,1,0,1,0],904)]),(95,[([1,1,0],783)]),(97,[([1,1,1,0,1,0],35)]),(98,[([1,1,0,1,0],10)]),(99,[([1,1,0,1,0],24)]),(104,[([1,1,1,0,1,0],470)]),(105,[([1,1,0,1,0],44)]),(106,[([1,1,0,1,0],25)]),(110,[([1,0,1,0],387)]),(116,[([1,1,0,1,0],14404)]),(117,[([1,1,1,0,1,0],58720338)]),(118,[([1,1,0,1,0],229382)]),(120,[([1,1,0,1,0],35)]),(122,[([1,1,1,0,0],9)]),(123,[([1,0,1,0],35)]),(124,[([1,1,0,1,0],26)]),(125,[([1,1,0,1,0],904)]),(126,[([1,0],71),([1,0,0,1,0,0,1,0],199)]),(127,[([1,1,1,0,1,0],961),([1,1,1,1,1,0],1217)]),(128,[([1,1,0,1,1,1,0],963)]),(130,[([1,1,0],193)]),(131,[([1,1,0,1,0],391),([1,1,0,1,0,0,1,0,0,0,0],391),([1,1,0,1,0,0,1,0,0,1,1,1,1,0,1,0,1,0],903),([1,1,0,1,0,0,1,0,0,1,1,1,1,1,1,0,1,0],1415)]),(132,[([1,1,1,0,0],1539),([1,1,1,0,0,0,0,0,0],1539),([1,1,1,0,0,0,0,1,0,0],1539)]),(133,[([1,1,1,0,0],3075),([1,1,1,1,0,0],3075),([1,1,1,1,1,1,1,1,1,0,0],3075),([1,1,1,1,1,1,1,1,1,0,0,0,0,0,0],3075),([1,1,1,1,1,1,1,1,1,0,0,0,0,1,0,0],3075)]),(139,[([1,1,0,1,0],26)]),(147,[([1,0,1,0],387)]),(148,[([1,0,1,0],450)]),(149,[([1,0,1,0],448)]),(155,[([1,1,1,0],1606)]),(159,[([1,0],269)]),(166,[([1,1,1,0,1,0],10)]),(167,[([1,1,1,0,1,0],9)]),(169,[([1,1,1,0,1,0],140)]),(170,[([1,1,0,1,0],38)]),(172,[([1,1,1,1,0,0],464),([1,1,1,1,0,0,0,1,0,1,1,1,1,1,0,0,1,1,1,1,1,1,1,1,1,1,1,0,1,0],60368)]),(176,[([1,0,1,0],86)]),(177,[([1,1,0,1,0],9)]),(178,[([1,1,1,0,1,0],220)]),(179,[([1,1,1,1,0,1,0],108)]),(181,[([1,0,1,0],9)]),(182,[([1,1,0,1,0],214)]),(186,[([1,1,0,1,0],1800)]),(189,[([1,1,0,1,0],1806)]),(190,[([1,1,1,0,0],208),([1,1,1,0,0,0,1,0,1,1,1,0,1,1,1,1,1,1,1,1,1,0,1,0],985162418504912)]),(191,[([1,1,0,1,0],3593),([1,1,1,1,0,1,0],234881088)]),(194,[([1,0,1,0],1812)]),(203,[([1,0,1,0],917582),([1,1,0,1,0],7696581394508)]),(205,[([1,1,0,1,0],28756)]),(206,[([1,1,0,1,0],28)]),(207,[([1,1,0,1,0],229382)]),(210,[([1,1,1,0,1,0],35)]),(211,[([1,1,0,1,0],102)]),(212,[([1,1,0,1,0],26)]),(215,[([1,0,1,0],35)]),(216,[([1,1,0,1,0],462)]),(219,[([1,1,0,1,0],214)]),(220,[([1,1,0,1,0],52)]),(221,[([1,1,0,1,0],30)]),(222,[([1,0,1,0],38)]),(223,[([1,1,0,1,0],41)]),(226,[([1,1,1,0],1606)]),(227,[([1,1,0,1,0],25)]),(229,[([1,1,0,1,0],456)]),(233,[([1,1,0,1,0],939524097)]),(235,[([1,1,0,1,0],7218)]),(237,[([1,1,0,1,0],458844),([1,1,1,0,1,0],30786325577812)]),(242,[([1,1,1,0,1,0],240518168724)]),(243,[([1,1,0,1,0],58720257)]),(245,[([1,1,1,1,1,1,0,0],384)]),(247,[([1,0,1,0],387)]),(248,[([1,1,1,0,1,0],28680)]),(249,[([1,1,1,0,1,0],31525197391593505)]),(250,[([1,1,1,0,1,0],7516192914)]),(251,[([1,1,0,1,0],904)]),(253,[([1,1,0,1,0],908)]),(254,[([1,1,0,1,0],1804)]),(255,[([1,1,0,1,0],3618)]),(256,[([1,1,0,1,0],35)]),(257,[([1,0,1,0,0,1,0],206),([1,1,1,0,1,0],846)]),(258,[([1,1,0,1,0],29),([1,1,0,1,0,0,1,0,0,1,0,0],61)]),(259,[([1,0,1,0],10)]),(263,[([1,1,1,0,0],234)]),(264,[([1,1,0,0],35)]),(265,[([1,1,0,1,0],10)]),(269,[([1,1,0,1,0],846),([1,1,0,1,0,0,1,0,0,1,1,1,0],5966)]),(271,[([1,0,1,0],97)]),(274,[([1,0,1,0],14343)]),(277,[([1,1,1,0,1,0],7516192818)]),(279,[([1,0,1,0],450)]),(283,[([1,1,0],783)]),(287,[([1,0,1,0],229432)]),(291,[([1,1,0,1,0],35),([1,1,0,1,0,0,1,0,0,1,0,1,0,1,0],227)]),(292,[([1,1,0,1,0],41)]),(293,[([1,1,0,1,0],124),([1,1,1,0,1,0],188)]),(294,[([1,1,0,1,0],44)]),(295,[([1,1,0,1,0],108)]),(296,[([1,1,1,0,1,0],108)]),(298,[([1,0,1,0],44)]),(299,[([1,1,0,1,0],102)]),(300,[([1,0,1,0,0,1,0],284),([1,1,1,0,1,0],540)]),(301,[([1,1,0,1,0],29)]),(302,[([1,0,1,0],97)]),(308,[([1,0,1,0],387)]),(311,[([1,0,0],19)]),(312,[([1,1,1,1,1,0,1,1,1,0,0],146459),([1,1,1,1,1,0,1,0,1,1,1,0,0],130075)]),(313,[([1,1,1,0,1,0],57378)]),(314,[([1,1,1,0,0],1799)]),(316,[([1,1,0],3103)]),(317,[([1,0],71),([1,0,0,1,0,0,1,0],199)]),(318,[([1,1,1,0,1,0],961),([1,1,1,1,1,0],1217)]),(319,[([1,1,0,1,1,1,0],963)]),(321,[([1,1,0],193)]),(322,[([1,1,0,1,0],391),([1,1,0,1,0,0,1,0,0,0,0],391),([1,1,0,1,0,0,1,0,0,1,1,1,1,0,1,0,1,0],903),([1,1,0,1,0,0,1,0,0,1,1,1,1,1,1,0,1,0],1415)]),(324,[([1,1,1,0,0],1539),([1,1,1,0,0,0,0,0,0],1539),([1,1,1,0,0,0,0,1,0,0],1539)]),(325,[([1,1,1,0,0],3075),([1,1,1,1,0,0],3075),([1,1,1,1,1,1,1,1,1,0,0],3075),([1,1,1,1,1,1,1,1,1,0,0,0,0,0,0],3075),([1,1,1,1,1,1,1,1,1,0,0,0,0,1,0,0],3075)]),(329,[([1,1,1,0,1,0],29360164)]),(331,[([1,1,0,1,0],469762104)]),(332,[([1,1,0],3103)]),(333,[([1,0,1,0],38)]),(334,[([1,1,1,0,1,0],102)]),(340,[([1,0],271),([1,0,0,1,0,0,1,0],783)]),(341,[([1,1,1,0,1,0],3849),([1,1,1,1,1,0],4873)]),(342,[([1,1,0,1,1,1,0],3843)]),(344,[([1,1,0],769)]),(345,[([1,1,0,1,0],1551),([1,1,0,1,0,0,1,0,0,0,0],1551),([1,1,0,1,0,0,1,0,0,1,1,1,1,0,1,0,1,0],3599),([1,1,0,1,0,0,1,0,0,1,1,1,1,1,1,0,1,0],5647)]),(346,[([1,1,1,0,0],6163),([1,1,1,0,0,0,0,0,0],6163),([1,1,1,0,0,0,0,1,0,0],6163)]),(347,[([1,1,1,0,0],12307),([1,1,1,1,0,0],12307),([1,1,1,1,1,1,1,1,1,0,0],12307),([1,1,1,1,1,1,1,1,1,0,0,0,0,0,0],12307),([1,1,1,1,1,1,1,1,1,0,0,0,0,1,0,0],12307)]),(348,[([1,0],269)]),(351,[([1,0],271),([1,0,0,1,0,0,1,0],783)]),(352,[([1,1,1,0,1,0],3849),([1,1,1,1,1,0],4873)]),(353,[([1,1,0,1,1,1,0],3843)]),(355,[([1,1,0],769)]),(356,[([1,1,0,1,0],1551),([1,1,0,1,0,0,1,0,0,0,0],1551),([1,1,0,1,0,0,1,0,0,1,1,1,1,0,1,0,1,0],3599),([1,1,0,1,0,0,1,0,0,1,1,1,1,1,1,0,1,0],5647)]),(357,[([1,1,1,0,0],6163),([1,1,1,0,0,0,0,0,0],6163),([1,1,1,0,0,0,0,1,0,0],6163)]),(358,[([1,1,1,0,0],12307),([1,1,1,1,0,0],12307),([1,1,1,1,1,1,1,1,1,0,0],12307),([1,1,1,1,1,1,1,1,1,0,0,0,0,0,0],12307),([1,1,1,1,1,1,1,1,1,0,0,0,0,1,0,0],12307)]),(361,[([1,0],1053)]),(365,[([1,0],1053)])]
def jE9:List Nat:=[245,88,263,291,239,238,190,172,258,174]
def jBi:List Nat:=[247,221,250,299,202,301,178,253,235,156,205,196,237,258,173,219,262,217,218,252,145]
def jF2:List Nat:=[88,238]
def jGd:List Nat:=[]
def jE3:List Nat:=[]
def jGj:List Nat:=[221,250,299,301,178,253,235,156,205,196,237,258,173,219,262,217,218,252,145]
def jGp:List Nat:=[111]
def jGm:List (Nat × List Nat):=[(180,[221]),(198,[202]),(203,[202])]
def jEX:List (Nat × Option Sig):=[(61,some [⟨0,[1],[.cons],[0],.row 1⟩]),(88,some [⟨0,[1],[],[0],.row 0⟩]),(111,some [⟨7,[],[.box [.d 0,.d 1],.box [.d 2,.d 3,.d 4,.d 5]],[],.agg [.d 6]⟩]),(145,some [⟨0,[],[.cons,.cons,.cons,.cons,.cons,.cons,.cons],[],.d 0⟩]),(156,some [⟨0,[],[.cons,.cons,.cons,.cons,.cons,.cons,.cons],[],.d 0⟩]),(170,some [⟨0,[1],[.cons],[0],.row 1⟩]),(173,some [⟨0,[],[.cons,.cons,.cons,.cons,.cons,.cons,.cons],[],.d 0⟩]),(174,some [⟨0,[3],[],[0],.row 0⟩]),(178,some [⟨0,[],[.cons,.cons,.cons,.cons,.cons,.cons,.cons],[],.d 0⟩]),(191,some [⟨0,[3],[.cons],[0],.row 1⟩]),(196,some [⟨0,[],[.cons,.cons,.cons,.cons,.cons,.cons,.cons],[],.d 0⟩]),(202,some [⟨1,[2],[],[0],.agg [.d 0,.row 0]⟩]),(205,some [⟨0,[],[.cons,.cons,.cons,.cons,.cons,.cons,.cons],[],.d 0⟩]),(217,some [⟨0,[],[.cons,.cons,.cons,.cons,.cons,.cons,.cons],[],.d 0⟩]),(218,some [⟨0,[],[.cons,.cons,.cons,.cons,.cons,.cons,.cons],[],.d 0⟩]),(219,some [⟨0,[],[.cons,.cons,.cons,.cons,.cons,.cons,.cons],[],.d 0⟩]),(221,some [⟨0,[],[.cons,.cons,.cons,.cons,.cons,.cons,.cons],[],.d 0⟩,⟨1,[2],[],[0],.agg [.d 0,.row 0]⟩]),(233,some [⟨0,[1],[.cons],[0],.row 1⟩]),(235,some [⟨0,[],[.cons,.cons,.cons,.cons,.cons,.cons,.cons],[],.d 0⟩]),(237,some [⟨0,[],[.cons,.cons,.cons,.cons,.cons,.cons,.cons],[],.d 0⟩]),(238,some [⟨0,[3],[],[0],.row 0⟩]),(239,some [⟨0,[3],[.cons],[0],.row 1⟩]),(240,some [⟨0,[3],[],[0],.row 0⟩]),(243,some [⟨0,[1],[.cons],[0],.row 1⟩]),(244,some [jbV]),(245,some [⟨0,[1],[.cons],[0],.row 1⟩]),(247,some [⟨1,[2,2],[.io 0,.box [.row 3],.cons],[1],.d 0⟩]),(248,some [⟨0,[2],[],[0],.row 0⟩]),(249,some [⟨1,[128],[.io 0],[],.d 0⟩]),(250,some [⟨0,[],[.cons,.cons,.cons,.cons,.cons,.cons,.cons],[],.d 0⟩]),(252,some [⟨0,[],[.cons,.cons,.cons,.cons,.cons,.cons,.cons],[],.d 0⟩]),(253,some [⟨0,[],[.cons,.cons,.cons,.cons,.cons,.cons,.cons],[],.d 0⟩]),(258,some [⟨0,[],[.cons,.cons,.cons,.cons,.cons,.cons,.cons],[],.d 0⟩]),(262,some [⟨0,[],[.cons,.cons,.cons,.cons,.cons,.cons,.cons],[],.d 0⟩]),(263,some [⟨0,[3],[.cons,.cons],[0],.agg [.row 2]⟩,⟨0,[3],[.cons],[0],.agg [.row 1]⟩]),(281,some [jdu 3]),(290,some [jdu 3]),(291,some [⟨0,[3],[.cons],[0],.row 1⟩]),(299,some [⟨0,[],[.cons,.cons,.cons,.cons,.cons,.cons,.cons],[],.d 0⟩]),(300,some [⟨1,[259],[.cons],[0],.tup [.row 1,.d 0]⟩]),(301,some [⟨0,[],[.cons,.cons,.cons,.cons,.cons,.cons,.cons],[],.d 0⟩]),(335,some [⟨0,[1],[],[0],.row 0⟩])]
noncomputable def js3:List (Nat × Option ExtV):=[(244,some (jGl)),(290,some (sfE 3)),(281,some (sfE 3))]
noncomputable def jon:List (Nat × Option (List A->Option Out)):=[(187,some juP)]
noncomputable def K:Cfg:={ P:=Tryz.prog,D:=tyD jDr,sig:=λf=>jaa none f jEX,kp:=jMZ jF3,ext:=λf=>jaa none f jon,extv:=λf=>jaa none f js3,wf:=λf=>jfD f jE9,both:=λf=>jfD f jBi,kn:=λf=>jfD f jF2,rd:=λf=>jfD f jGd,tf:=λf=>jfD f jE3,sl:=λf=>jfD f jGj,th:=λf=>jfD f jGp,stc:=λf g=>jfD g (jaa [] f jGm) }
noncomputable abbrev G (f:Nat) (args:List A):Option Out:=MM K (.call f args)
def codeOf (fn:Func):Code:=match fn.body with|some c=>c|none=> .skip
theorem K9 {fn:Func} (h:fn.body.isSome=true):fn.body=some (codeOf fn):=by unfold codeOf;cases hb:fn.body with|some c=>rfl|none=>rw [hb] at h;cases h
theorem jJ6 {f:FuncId} {fn:Func} {args:List A} (h2:K.pureF f=true) (h3:Tryz.prog.funcs[f]? = some fn) (h4:fn.body.isSome=true) (h5:Nat.ble args.length fn.ntmps=true) (h1:K.ext f=none:=by rfl):G f args=evC K (MM K) f (codeOf fn) [] (jbW fn args) (jaM K f fn):=jBa h1 h2 h3 (K9 h4) h5
theorem jFi {f:FuncId} {x:List A->Option Out} {args:List A} (h1:K.ext f=some x):G f args=x args:=jDy h1
theorem jJ9 {f:FuncId} {fn:Func} {args:List V} {objs:List Abs.Obj} (h1:K.extv f=none) (h3:Tryz.prog.funcs[f]? = some fn) (h4:fn.body.isSome=true) (h5:Nat.ble args.length fn.ntmps=true):MM K (.callv f args objs)=evC K (MM K) f (codeOf fn) [] (je0 fn args objs) (jaM K f fn):=jxg h1 h3 (K9 h4) h5
theorem jOL {f:FuncId} {args:List V} {objs:List Abs.Obj} {x:ExtV} (h1:K.extv f=some x):MM K (.callv f args objs)=extRun K (MM K) x args objs:=jBb h1
theorem jJ7 {f:FuncId} {fn:Func} {p:List Nat} {fr:List V} {objs:List Abs.Obj} {sh:Option (List Nat)} (h3:Tryz.prog.funcs[f]? = some fn) (h4:fn.body.isSome=true):MM K (.head f p fr objs sh)=evAt K (MM K) f (codeOf fn) p [] (St.of fn.ntmps fr objs sh) (jaM K f fn):=jBc h3 (K9 h4)
end Go.Proofs.YtoaifmomhaneiaaGreatDoor
