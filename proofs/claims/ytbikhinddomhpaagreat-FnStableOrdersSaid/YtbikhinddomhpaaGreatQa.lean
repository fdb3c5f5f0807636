/- WRITTEN BY A PROGRAM (gen.py): what functions come to, as equations. -/
import Derived.Test.YtbikhinddomhpaaGreatK
import Derived.KernelRfl
set_option linter.unusedVariables false
namespace Go.Proofs.YtbikhinddomhpaaGreat
open Go Go.RowKit Go.Proofs.YtbikhinddomhpaaGreat.Abs
noncomputable def C12_0 (x0 x1 x2 : A) : Option Out := MM K (.callv 12 [V.ptr 0 0] [.box [V.d x0, V.d x1, V.d x2]])
noncomputable def L12c0_0 (x0 x1 x2 x3 x4 : A) (r0 r1 r2 r3 r4 : List (List A)) : Option Out := MM K (.head 12 [1, 1, 1, 0, 0] [V.ptr 0 0, V.top, V.ptr 1 0, V.row 2, V.ptr 3 0, V.top, V.top, V.top, V.top, V.top, V.top, V.top, V.top, V.top, V.top, V.top, V.top, V.top, V.top, V.top, V.top, V.top, V.top, V.top, V.top, V.top, V.top, V.top, V.top, V.top, V.top, V.top, V.top, V.top, V.top, V.top, V.top, V.top, V.top, V.top, V.top, V.top, V.top, V.top, V.top, V.top, V.top, V.top, V.top, V.top, V.top, V.top, V.top, V.top, V.top, V.top, V.top, V.top, V.top, V.top, V.top, V.top, V.top, V.top, V.top, V.top, V.top, V.top, V.top, V.top, V.top, V.top, V.top, V.top, V.top, V.top, V.top, V.top, V.top, V.top, V.top, V.top, V.top, V.top, V.top, V.top, V.top, V.top, V.top, V.top, V.top] [.box [V.d x0, V.d x1, V.d x2], .box [V.row 4, V.row 5, V.d x3], .row 1 r0, .box [V.row 6, V.row 7, V.d x4], .row 1 r1, .row 1 r2, .row 1 r3, .row 1 r4] (some [0]))
noncomputable def C13_0 (x0 x1 x2 : A) : Option Out := MM K (.callv 13 [V.ptr 0 0] [.box [V.d x0, V.d x1, V.d x2]])
noncomputable def C14_0 (x0 x1 x2 : A) : Option Out := MM K (.callv 14 [V.ptr 0 0] [.box [V.d x0, V.d x1, V.d x2]])
noncomputable def L14c0_0 (x0 x1 x2 x3 : A) (r0 r1 : List (List A)) : Option Out := MM K (.head 14 [1, 1, 1, 1, 1, 0, 1, 0, 1, 1, 1, 1, 1, 1, 1, 0, 0, 1, 0] [V.top, V.top, V.ptr 0 0, V.ptr 1 0, V.top, V.top, V.d x0, V.top, V.top, V.top, V.top, V.top, V.top, V.top, V.top, V.top, V.top, V.top, V.top, V.top, V.top, V.top, V.top, V.top, V.top, V.top, V.top, V.top, V.top, V.top, V.top, V.top, V.top, V.top, V.top, V.top, V.top, V.top, V.top, V.top, V.top, V.top, V.top, V.top, V.top, V.top, V.top, V.top, V.top, V.top, V.top, V.top, V.top, V.top, V.top, V.top, V.top, V.top, V.top, V.top, V.top, V.top, V.top, V.top, V.top, V.top, V.top, V.top, V.top, V.top, V.top, V.top, V.top, V.top, V.top] [.box [V.row 4], .box [V.row 3], .box [V.d x1, V.d x2, V.d x3], .row 3 r0, .row 3 r1] (some [2]))
noncomputable def L14c0_1 (x0 x1 x2 x3 : A) (r0 r1 : List (List A)) : Option Out := MM K (.head 14 [1, 1, 1, 1, 1, 0, 1, 0, 1, 1, 1, 1, 1, 1, 1, 0, 0, 1, 0] [V.top, V.top, V.ptr 0 0, V.ptr 1 0, V.top, V.top, V.d x0, V.top, V.top, V.top, V.top, V.top, V.top, V.top, V.top, V.top, V.top, V.top, V.top, V.top, V.top, V.top, V.top, V.top, V.top, V.top, V.top, V.top, V.top, V.top, V.top, V.top, V.top, V.top, V.top, V.top, V.top, V.top, V.top, V.top, V.top, V.top, V.top, V.top, V.top, V.top, V.top, V.top, V.top, V.top, V.top, V.top, V.top, V.top, V.top, V.top, V.top, V.top, V.top, V.top, V.top, V.top, V.top, V.top, V.top, V.top, V.top, V.top, V.top, V.top, V.top, V.top, V.top, V.top, V.top] [.box [V.row 3], .box [V.row 4], .box [V.d x1, V.d x2, V.d x3], .row 3 r0, .row 3 r1] (some [2]))
noncomputable def C15_0 (x0 x1 x2 x3 : A) : Option Out := MM K (.callv 15 [V.ptr 0 0, V.d x0] [.box [V.d x1, V.d x2, V.d x3]])
noncomputable def C16_0 (x0 x1 x2 x3 : A) : Option Out := MM K (.callv 16 [V.ptr 0 0, V.d x0] [.box [V.d x1, V.d x2, V.d x3]])
noncomputable def C17_0 (x0 x1 x2 x3 : A) : Option Out := MM K (.callv 17 [V.ptr 0 0, V.d x0] [.box [V.d x1, V.d x2, V.d x3]])
noncomputable def L17c0_0 (x0 x1 x2 x3 x4 x5 : A) (r0 r1 : List (List A)) : Option Out := MM K (.head 17 [1, 1, 0, 0] [V.top, V.d x0, V.top, V.top, V.ptr 0 0, V.ptr 1 0, V.top, V.top, V.top, V.top, V.top, V.top, V.top, V.top, V.top, V.top, V.top, V.top] [.box [V.d x1, V.row 3], .box [V.d x2, V.row 4], .box [V.d x3, V.d x4, V.d x5], .row 2 r0, .row 2 r1] (some [2]))
noncomputable def C18_0 (x0 x1 x2 : A) : Option Out := MM K (.callv 18 [V.ptr 0 0] [.box [V.d x0, V.d x1, V.d x2]])
noncomputable def L19_0 (x0 x1 : A) : Option Out := MM K (.head 19 [1, 0, 1, 0] [V.top, V.ptr 0 0, V.top, V.d x0, V.top, V.top, V.top, V.top, V.top, V.top, V.top, V.top, V.top, V.top, V.top, V.top, V.top, V.top, V.top, V.top, V.top, V.top, V.top, V.top, V.top, V.top, V.top, V.top, V.top, V.top, V.top, V.top, V.top, V.top, V.top, V.top, V.top, V.top, V.top, V.top, V.top, V.top, V.top, V.top, V.top, V.top, V.top, V.top, V.top, V.top, V.top, V.top, V.top, V.top, V.top] [.box [V.d x1]] none)
noncomputable def L21_0 (x0 x1 x2 x3 x4 x5 : A) (r0 r1 : List (List A)) : Option Out := MM K (.head 21 [1, 1, 1, 0, 1, 0] [V.top, V.top, V.ptr 0 0, V.ptr 1 0, V.ptr 2 0, V.top, V.ptr 3 0, V.d x0, V.top, V.top, V.top, V.top, V.top, V.top, V.top, V.top, V.top, V.top, V.top, V.top, V.top, V.top, V.top, V.top, V.top, V.top, V.top, V.top, V.top, V.top, V.top, V.top, V.top, V.top, V.top, V.top, V.top, V.top, V.top, V.top, V.top, V.top, V.top, V.top, V.top, V.top, V.top, V.top, V.top, V.top] [.box [V.d x1], .box [V.d x2, V.d x3], .box [V.d x4, V.row 4], .box [V.d x5, V.row 5], .row 2 r0, .row 2 r1] none)
noncomputable def L29_0 (x0 x1 x2 x3 : A) : Option Out := MM K (.head 29 [1, 1, 0, 1, 0] [V.top, V.ptr 0 0, V.top, V.d x0, V.top, V.top, V.top, V.top, V.top, V.top, V.top, V.top, V.top, V.top, V.top, V.top, V.top, V.top, V.top, V.top, V.top, V.top, V.top, V.top, V.top, V.top, V.top, V.top, V.top, V.top, V.top, V.top, V.top, V.top, V.top, V.top, V.top, V.top, V.top, V.top, V.top, V.top, V.top, V.top, V.top, V.top, V.top, V.top, V.top, V.top, V.top, V.top, V.top, V.top, V.top, V.top, V.top, V.top, V.top, V.top, V.top] [.box [V.d x1, V.d x2, V.d x3]] none)
noncomputable def L32_0 (x0 x1 x2 x3 x4 : A) : Option Out := MM K (.head 32 [1, 1, 0, 1, 0] [V.top, V.top, V.ptr 0 0, V.ptr 1 0, V.top, V.d x0, V.top, V.top, V.top, V.top, V.top, V.top, V.top, V.top, V.top, V.top, V.top, V.top, V.top, V.top, V.top, V.top, V.top, V.top, V.top, V.top, V.top, V.top, V.top, V.top, V.top, V.top, V.top, V.top, V.top, V.top, V.top, V.top, V.top] [.box [V.d x1, V.d x2], .box [V.d x3, V.d x4]] none)
noncomputable def C34_0 (x0 x1 x2 x3 : A) : Option Out := MM K (.callv 34 [V.ptr 0 0, V.d x0] [.box [V.d x1, V.d x2, V.d x3]])
noncomputable def C35_0 (x0 x1 x2 : A) (r0 : List (List A)) : Option Out := MM K (.callv 35 [V.ptr 0 0, V.row 1] [.box [V.d x0, V.d x1, V.d x2], .row 1 r0])
noncomputable def C36_0 (x0 x1 x2 : A) (r0 : List (List A)) : Option Out := MM K (.callv 36 [V.ptr 0 0, V.row 1] [.box [V.d x0, V.d x1, V.d x2], .row 1 r0])
noncomputable def C37_0 (x0 x1 x2 : A) : Option Out := MM K (.callv 37 [V.ptr 0 0] [.box [V.d x0, V.d x1, V.d x2]])
noncomputable def L38_0 (x0 x1 x2 x3 x4 : A) (r0 r1 : List (List A)) : Option Out := MM K (.head 38 [1, 1, 0, 1, 0] [V.top, V.ptr 0 0, V.ptr 1 0, V.ptr 2 0, V.d x0, V.top, V.top, V.top, V.top, V.top, V.top, V.top, V.top, V.top, V.top, V.top, V.top, V.top, V.top, V.top, V.top, V.top, V.top, V.top, V.top, V.top, V.top] [.box [V.d x1, V.d x2], .box [V.d x3, V.row 3], .box [V.d x4, V.row 4], .row 2 r0, .row 2 r1] none)
noncomputable def C39_0 (x0 x1 x2 : A) : Option Out := MM K (.callv 39 [V.ptr 0 0] [.box [V.d x0, V.d x1, V.d x2]])
noncomputable def C40_0 (x0 x1 x2 : A) : Option Out := MM K (.callv 40 [V.ptr 0 0] [.box [V.d x0, V.d x1, V.d x2]])
noncomputable def L40c0_0 (x0 x1 x2 x3 x4 : A) (r0 r1 r2 : List (List A)) : Option Out := MM K (.head 40 [1, 1, 0, 1, 0] [V.ptr 0 0, V.top, V.ptr 1 0, V.ptr 2 0, V.top, V.top, V.top, V.row 3, V.d x0, V.d x1, V.top, V.top, V.top, V.top, V.top, V.top, V.top, V.top, V.top, V.top, V.top, V.top] [.box [V.d x2, V.d x3, V.d x4], .box [V.row 4], .box [V.row 5], .row 1 r0, .row 3 r1, .row 3 r2] (some [0]))
noncomputable def C42_0 (x0 x1 x2 : A) : Option Out := MM K (.callv 42 [V.ptr 0 0] [.box [V.d x0, V.d x1, V.d x2]])
noncomputable def L43_0 (x0 x1 : A) : Option Out := MM K (.head 43 [1, 1, 0, 1, 0] [V.d x0, V.top, V.top, V.d x1, V.top, V.top, V.top, V.top, V.top, V.top, V.top, V.top, V.top, V.top, V.top, V.top, V.top, V.top, V.top, V.top, V.top, V.top, V.top, V.top, V.top, V.top, V.top, V.top, V.top] [] none)
noncomputable def L46_0 (x0 x1 x2 : A) : Option Out := MM K (.head 46 [1, 0, 1, 0] [V.top, V.d x0, V.ptr 0 0, V.top, V.top, V.d x1, V.top, V.top, V.top, V.top, V.top, V.top, V.top, V.top, V.top, V.top, V.top, V.top, V.top, V.top, V.top, V.top] [.box [V.d x2]] none)
noncomputable def L47_0 (x0 x1 x2 x3 x4 x5 : A) : Option Out := MM K (.head 47 [1, 1, 0, 1, 0] [V.top, V.ptr 0 0, V.top, V.top, V.top, V.top, V.top, V.top, V.top, V.top, V.top, V.top, V.top, V.top, V.top, V.top, V.top, V.top, V.top, V.top, V.top, V.top, V.top, V.top, V.top, V.top, V.d x0, V.d x1, V.d x2, V.top, V.top, V.top, V.top, V.top, V.top, V.top, V.top, V.top, V.top, V.top, V.top, V.top, V.top, V.top, V.top, V.top, V.top, V.top, V.top, V.top, V.top, V.top, V.top, V.top, V.top, V.top] [.box [V.d x3, V.d x4, V.d x5]] none)
noncomputable def L53_0 (x0 x1 x2 x3 x4 x5 x6 x7 x8 x9 : A) : Option Out := MM K (.head 53 [1, 0, 1, 0] [V.top, V.top, V.top, V.ptr 0 0, V.ptr 1 0, V.ptr 2 0, V.top, V.top, V.top, V.top, V.top, V.top, V.top, V.top, V.top, V.d x0, V.d x1, V.d x2, V.top, V.top, V.top, V.top, V.top, V.top, V.top, V.top, V.top, V.top, V.top, V.top, V.top, V.top, V.top, V.top, V.top, V.top, V.top, V.top, V.top, V.top, V.top, V.top, V.top, V.top, V.top, V.top, V.top, V.top, V.top, V.top, V.top, V.top, V.top, V.top, V.top, V.top, V.top, V.top, V.top, V.top, V.top, V.top, V.top, V.top, V.top, V.top, V.top] [.box [V.d x3, V.d x4, V.d x5], .box [V.d x6, V.d x7], .box [V.d x8, V.d x9]] none)
noncomputable def L55_0 (x0 x1 x2 x3 x4 : A) : Option Out := MM K (.head 55 [1, 1, 0, 1, 0] [V.top, V.d x0, V.d x1, V.top, V.top, V.top, V.top, V.top, V.top, V.top, V.top, V.top, V.top, V.top, V.top, V.d x2, V.d x3, V.d x4, V.top, V.top, V.top, V.top, V.top, V.top, V.top, V.top, V.top, V.top, V.top, V.top, V.top, V.top] [] none)
noncomputable def L60_0 (x0 x1 x2 x3 x4 x5 x6 : A) (r0 r1 : List (List A)) : Option Out := MM K (.head 60 [1, 1, 0, 1, 0] [V.top, V.top, V.top, V.ptr 0 0, V.ptr 1 0, V.ptr 2 0, V.top, V.top, V.top, V.top, V.top, V.top, V.top, V.top, V.top, V.top, V.top, V.top, V.top, V.top, V.top, V.top, V.top, V.top, V.top, V.top, V.d x0, V.d x1, V.d x2, V.top, V.top, V.top, V.top, V.top, V.top, V.top, V.top, V.top, V.top, V.top, V.top, V.top, V.top, V.top, V.top, V.top, V.top, V.top, V.top, V.top] [.box [V.d x3, V.d x4], .box [V.d x5, V.row 3], .box [V.d x6, V.row 4], .row 2 r0, .row 2 r1] none)
noncomputable def L62_0 (x0 x1 : A) : Option Out := MM K (.head 62 [1, 1, 1, 0, 1, 0] [V.d x0, V.top, V.top, V.d x1, V.top, V.top, V.top, V.top, V.top, V.top, V.top, V.top, V.top, V.top, V.top, V.top, V.top, V.top, V.top, V.top, V.top, V.top, V.top, V.top, V.top, V.top, V.top, V.top, V.top, V.top, V.top, V.top, V.top, V.top, V.top, V.top, V.top, V.top, V.top, V.top, V.top, V.top, V.top, V.top, V.top] [] none)
noncomputable def L63_0 (x0 x1 x2 : A) : Option Out := MM K (.head 63 [1, 0, 1, 0] [V.d x0, V.d x1, V.top, V.top, V.top, V.d x2, V.top, V.top, V.top, V.top, V.top, V.top, V.top, V.top, V.top, V.top, V.top, V.top] [] none)
noncomputable def L64_0 (x0 x1 x2 x3 x4 x5 : A) : Option Out := MM K (.head 64 [1, 1, 0, 1, 0] [V.top, V.top, V.ptr 0 0, V.ptr 1 0, V.top, V.d x0, V.top, V.top, V.top, V.top, V.top, V.top, V.top, V.top, V.top, V.top, V.top, V.top, V.top, V.top, V.top, V.top, V.top, V.top, V.top, V.top, V.top, V.top, V.top, V.top, V.top, V.top] [.box [V.d x1, V.d x2, V.d x3], .box [V.d x4, V.d x5]] none)
noncomputable def L65_0 (x0 x1 x2 x3 x4 x5 : A) : Option Out := MM K (.head 65 [1, 1, 0, 1, 0] [V.top, V.top, V.ptr 0 0, V.ptr 1 0, V.top, V.d x0, V.d x1, V.top, V.top, V.top, V.top, V.top, V.top, V.top, V.top, V.top, V.top, V.top, V.top, V.top, V.top, V.top, V.top, V.top, V.top, V.top, V.top, V.top] [.box [V.d x2, V.d x3], .box [V.d x4, V.d x5]] none)
noncomputable def L66_0 (x0 x1 x2 x3 x4 x5 x6 : A) : Option Out := MM K (.head 66 [1, 1, 1, 0, 1, 0] [V.top, V.top, V.ptr 0 0, V.ptr 1 0, V.top, V.d x0, V.d x1, V.top, V.top, V.top, V.top, V.top, V.top, V.top, V.top, V.top, V.top, V.top, V.top, V.top, V.top, V.top, V.top, V.top, V.top, V.top, V.top, V.top, V.top, V.top, V.top, V.top, V.top, V.top, V.top, V.top, V.top, V.top] [.box [V.d x2, V.d x3, V.d x4], .box [V.d x5, V.d x6]] none)
noncomputable def L68_0 (x0 x1 x2 x3 x4 : A) : Option Out := MM K (.head 68 [1, 0, 1, 0] [V.top, V.top, V.ptr 0 0, V.ptr 1 0, V.top, V.d x0, V.top, V.top, V.top, V.top, V.top, V.top, V.top, V.top, V.top, V.top, V.top, V.top, V.top, V.top, V.top, V.top, V.top, V.top, V.top, V.top] [.box [V.d x1, V.d x2], .box [V.d x3, V.d x4]] none)
noncomputable def C69_0 (x0 x1 x2 : A) : Option Out := MM K (.callv 69 [V.ptr 0 0] [.box [V.d x0, V.d x1, V.d x2]])
noncomputable def C70_0 (x0 x1 x2 : A) : Option Out := MM K (.callv 70 [V.ptr 0 0] [.box [V.d x0, V.d x1, V.d x2]])
noncomputable def L70c0_0 (x0 x1 x2 x3 x4 x5 : A) (r0 r1 : List (List A)) : Option Out := MM K (.head 70 [1, 1, 0, 1, 0] [V.ptr 0 0, V.top, V.ptr 1 0, V.ptr 2 0, V.d x0, V.top, V.top, V.top, V.top, V.top, V.top, V.top, V.top, V.top, V.top, V.top, V.top, V.top, V.top, V.top, V.top, V.top, V.top, V.top, V.top, V.top, V.top, V.top, V.top, V.top, V.top, V.top, V.top, V.top, V.top, V.top, V.top, V.top, V.top, V.top, V.top, V.top, V.top, V.top, V.top, V.top, V.top, V.top, V.top, V.top, V.top, V.top, V.top, V.top] [.box [V.d x1, V.d x2, V.d x3], .box [V.d x4, V.row 3], .box [V.d x5, V.row 4], .row 2 r0, .row 2 r1] (some [0]))
noncomputable def L70c0_1 (x0 x1 x2 x3 x4 x5 x6 x7 : A) (r0 r1 r2 : List (List A)) : Option Out := MM K (.head 70 [1, 1, 0, 1, 0, 0, 1, 0, 0, 1, 0, 1, 0] [V.ptr 0 0, V.top, V.ptr 1 0, V.ptr 2 0, V.d x0, V.ptr 3 0, V.d x1, V.top, V.top, V.top, V.top, V.top, V.top, V.top, V.top, V.top, V.top, V.top, V.top, V.top, V.top, V.top, V.top, V.top, V.top, V.top, V.top, V.top, V.top, V.top, V.top, V.top, V.top, V.top, V.top, V.top, V.top, V.top, V.top, V.top, V.top, V.top, V.top, V.top, V.top, V.top, V.top, V.top, V.top, V.top, V.top, V.top, V.top, V.top] [.box [V.d x2, V.d x3, V.d x4], .box [V.d x5, V.row 4], .box [V.d x6, V.row 5], .box [V.d x7, V.row 6], .row 2 r0, .row 2 r1, .row 2 r2] (some [0]))
noncomputable def C71_0 (x0 x1 : A) (r0 r1 : List (List A)) : Option Out := MM K (.callv 71 [V.agg [V.row 0], V.d x0, V.agg [V.d x1, V.row 1]] [.row 3 r0, .row 2 r1])
noncomputable def L71c0_0 (x0 x1 x2 : A) (r0 r1 r2 : List (List A)) : Option Out := MM K (.head 71 [1, 1, 1, 0, 0] [V.top, V.d x0, V.top, V.ptr 0 0, V.top, V.ptr 1 0, V.ptr 2 0, V.d x1, V.top, V.top, V.top, V.top, V.top, V.top, V.top, V.top, V.top, V.top, V.top, V.top, V.top, V.top, V.top, V.top, V.top, V.top, V.top, V.top, V.top, V.top, V.top, V.top, V.top, V.top, V.top, V.top, V.top, V.top, V.top, V.top, V.top, V.top, V.top, V.top, V.top, V.top, V.top, V.top, V.top, V.top, V.top] [.box [V.row 3], .box [V.d x2, V.row 4], .box [V.row 5], .row 3 r0, .row 2 r1, .row 3 r2] (some [3, 4]))
noncomputable def L74_0 (x0 x1 x2 : A) : Option Out := MM K (.head 74 [1, 1, 1, 0, 1, 0] [V.top, V.ptr 0 0, V.top, V.d x0, V.top, V.top, V.top, V.top, V.top, V.top, V.top, V.top, V.top, V.top, V.top, V.top, V.top, V.top, V.top, V.top, V.top, V.top, V.top, V.top, V.top, V.top, V.top, V.top, V.top, V.top, V.top, V.top, V.top, V.top, V.top] [.box [V.d x1, V.d x2]] none)
noncomputable def L76_0 (x0 x1 x2 : A) : Option Out := MM K (.head 76 [1, 0, 1, 0] [V.d x0, V.top, V.top, V.top, V.top, V.d x1, V.d x2, V.top, V.top, V.top, V.top, V.top, V.top, V.top, V.top, V.top, V.top, V.top, V.top, V.top, V.top, V.top, V.top, V.top, V.top, V.top, V.top, V.top, V.top, V.top, V.top, V.top, V.top, V.top, V.top, V.top, V.top, V.top, V.top, V.top, V.top, V.top, V.top, V.top, V.top, V.top, V.top, V.top] [] none)
noncomputable def L78_0 (x0 x1 x2 x3 : A) : Option Out := MM K (.head 78 [1, 0, 1, 0] [V.d x0, V.d x1, V.top, V.top, V.top, V.top, V.top, V.d x2, V.d x3, V.top, V.top, V.top, V.top, V.top, V.top, V.top, V.top, V.top, V.top] [] none)
noncomputable def L83_0 (x0 x1 x2 x3 x4 : A) : Option Out := MM K (.head 83 [1, 1, 1, 0, 1, 0] [V.top, V.d x0, V.top, V.top, V.top, V.d x1, V.top, V.top, V.top, V.top, V.top, V.top, V.top, V.d x2, V.d x3, V.d x4, V.top, V.top, V.top, V.top, V.top, V.top, V.top, V.top, V.top, V.top] [] none)
noncomputable def L84_0 (x0 x1 x2 x3 x4 x5 x6 : A) : Option Out := MM K (.head 84 [1, 1, 1, 0, 1, 0] [V.top, V.top, V.ptr 0 0, V.top, V.top, V.d x0, V.top, V.top, V.top, V.top, V.top, V.top, V.top, V.top, V.top, V.top, V.top, V.top, V.top, V.top, V.top, V.top, V.d x1, V.d x2, V.d x3, V.top, V.top, V.top, V.top, V.top, V.top, V.top, V.top, V.top, V.top] [.box [V.d x4, V.d x5, V.d x6]] none)
noncomputable def L86_0 (x0 x1 x2 x3 : A) : Option Out := MM K (.head 86 [1, 0, 1, 0] [V.d x0, V.d x1, V.top, V.top, V.top, V.top, V.top, V.d x2, V.d x3, V.top, V.top, V.top, V.top, V.top, V.top, V.top, V.top, V.top, V.top] [] none)
noncomputable def L87_0 (x0 x1 x2 x3 x4 : A) : Option Out := MM K (.head 87 [1, 0, 1, 0] [V.top, V.d x0, V.ptr 0 0, V.top, V.top, V.d x1, V.top, V.top, V.top, V.top, V.top, V.top, V.top, V.top, V.top, V.top, V.top, V.top, V.top, V.top, V.top] [.box [V.d x2, V.d x3, V.d x4]] none)
noncomputable def L89_0 (x0 x1 x2 x3 x4 : A) : Option Out := MM K (.head 89 [1, 1, 1, 0, 1, 0] [V.top, V.d x0, V.ptr 0 0, V.top, V.top, V.d x1, V.d x2, V.top, V.top, V.top, V.top, V.top, V.top, V.top, V.top, V.top, V.top, V.top, V.top, V.top, V.top, V.top, V.top, V.top, V.top, V.top, V.top, V.top] [.box [V.d x3, V.d x4]] none)
noncomputable def L90_0 (x0 x1 x2 x3 x4 : A) : Option Out := MM K (.head 90 [1, 1, 0, 1, 0] [V.top, V.d x0, V.ptr 0 0, V.top, V.top, V.d x1, V.d x2, V.top, V.top, V.top, V.top, V.top, V.top, V.top, V.top, V.top, V.top, V.top, V.top, V.top, V.top, V.top, V.top, V.top, V.top, V.top, V.top, V.top, V.top, V.top, V.top] [.box [V.d x3, V.d x4]] none)
noncomputable def L91_0 (x0 x1 x2 x3 : A) : Option Out := MM K (.head 91 [1, 1, 0, 1, 0] [V.top, V.ptr 0 0, V.top, V.d x0, V.d x1, V.top, V.top, V.top, V.top, V.top, V.top, V.top, V.top, V.top, V.top, V.top, V.top, V.top, V.top, V.top, V.top, V.top] [.box [V.d x2, V.d x3]] none)
noncomputable def L95_0 (x0 x1 x2 x3 : A) : Option Out := MM K (.head 95 [1, 1, 0, 1, 0] [V.top, V.top, V.top, V.d x0, V.top, V.top, V.top, V.d x1, V.d x2, V.d x3, V.top, V.top, V.top, V.top, V.top, V.top, V.top, V.top, V.top, V.top, V.top, V.top] [] none)
noncomputable def L96_0 (x0 x1 x2 x3 : A) : Option Out := MM K (.head 96 [1, 1, 0, 1, 0] [V.top, V.top, V.top, V.d x0, V.top, V.top, V.top, V.d x1, V.d x2, V.d x3, V.top, V.top, V.top, V.top, V.top, V.top, V.top, V.top, V.top, V.top] [] none)
noncomputable def L97_0 (x0 x1 x2 : A) : Option Out := MM K (.head 97 [1, 0, 1, 0] [V.d x0, V.top, V.top, V.top, V.top, V.d x1, V.d x2, V.top, V.top, V.top, V.top, V.top, V.top, V.top, V.top, V.top, V.top, V.top, V.top, V.top, V.top, V.top, V.top, V.top, V.top, V.top, V.top, V.top, V.top, V.top, V.top, V.top, V.top, V.top, V.top, V.top, V.top, V.top, V.top, V.top] [] none)
noncomputable def C99_0 (x0 x1 : A) (r0 : List (List A)) : Option Out := MM K (.callv 99 [V.row 0, V.agg [V.d x0, V.d x1]] [.row 1 r0])
noncomputable def L99c0_0 (x0 x1 x2 : A) (r0 : List (List A)) : Option Out := MM K (.head 99 [1, 1, 0, 1, 0] [V.row 0, V.top, V.top, V.top, V.top, V.top, V.top, V.top, V.top, V.top, V.top, V.top, V.top, V.top, V.top, V.top, V.top, V.top, V.top, V.top, V.top, V.top, V.top, V.top, V.top, V.top, V.top, V.d x0, V.d x1, V.d x2, V.top, V.top, V.top, V.top, V.top, V.top, V.top, V.top] [.row 1 r0] (some [0]))
noncomputable def L99c0_1 (x0 x1 x2 : A) (r0 : List (List A)) : Option Out := MM K (.head 99 [1, 1, 0, 1, 0] [V.row 0, V.top, V.top, V.top, V.top, V.top, V.top, V.top, V.top, V.top, V.top, V.top, V.top, V.top, V.top, V.top, V.top, V.top, V.top, V.top, V.top, V.top, V.top, V.top, V.top, V.top, V.top, V.d x0, V.d x1, V.d x2, V.top, V.top, V.top, V.top, V.top, V.top, V.top, V.top] [.row 1 r0, .gone] (some [1]))
noncomputable def C100_0 (r0 : List (List A)) : Option Out := MM K (.callv 100 [V.row 0] [.row 1 r0])
noncomputable def L101_0 (x0 x1 x2 x3 : A) : Option Out := MM K (.head 101 [1, 1, 0, 1, 0] [V.d x0, V.top, V.top, V.ptr 0 0, V.top, V.d x1, V.top, V.top, V.top, V.top, V.top, V.top, V.top, V.top, V.top, V.top, V.top, V.top, V.top, V.top, V.top, V.top, V.top, V.top, V.top, V.top, V.top, V.top] [.box [V.d x2, V.d x3]] none)
noncomputable def L105_0 (x0 x1 x2 : A) : Option Out := MM K (.head 105 [1, 1, 0, 0] [V.d x0, V.d x1, V.top, V.top, V.top, V.d x2, V.top, V.top, V.top, V.top, V.top, V.top, V.top, V.top, V.top, V.top, V.top, V.top, V.top, V.top, V.top, V.top, V.top, V.top, V.top, V.top, V.top, V.top, V.top, V.top, V.top, V.top, V.top, V.top, V.top, V.top, V.top, V.top, V.top, V.top, V.top, V.top, V.top, V.top, V.top] [] none)
theorem g3 (a0 : A) : G 3 [a0] =
  ((G 4 [a0]).bind (fin false)).bind fun t0 =>
  (pBool t0).bind fun t1 =>
  brn t1 (
    some ((vb true, []))) (
    ((G 5 [a0]).bind (fin false)).bind fun t2 =>
    (pTup t2 0).bind fun t3 =>
    (pTup t2 1).bind fun t4 =>
    (pTup t2 2).bind fun t5 =>
    (pCells 3 t3).bind fun t6 =>
    (pCells 2 t4).bind fun t7 =>
    (pCells 2 t5).bind fun t8 =>
    ((G 7 [a0, vi 5]).bind (fin false)).bind fun t9 =>
    ((G 6 [t9]).bind (fin false)).bind fun t10 =>
    (pTup t10 0).bind fun t11 =>
    (pTup t10 1).bind fun t12 =>
    (pCells 1 t11).bind fun t13 =>
    (pCells 2 t12).bind fun t14 =>
    ((G 8 [A.agg [cGet t13 0], A.agg [cGet t7 0, cGet t7 1]]).bind (fin false)).bind fun t15 =>
    (pTup t15 0).bind fun t16 =>
    (pTup t15 1).bind fun t17 =>
    (pCells 2 t16).bind fun t18 =>
    ((G 8 [A.agg [cGet t13 0], A.agg [cGet t8 0, cGet t8 1]]).bind (fin false)).bind fun t19 =>
    (pTup t19 0).bind fun t20 =>
    (pTup t19 1).bind fun t21 =>
    (pCells 2 t20).bind fun t22 =>
    ((G 9 [A.agg [cGet t6 0, cGet t6 1, cGet t6 2], A.agg [cGet t7 0, cGet t7 1], A.agg [cGet t8 0, cGet t8 1]]).bind (fin false)).bind fun t23 =>
    (pTup t23 0).bind fun t24 =>
    (pTup t23 1).bind fun t25 =>
    ((G 10 [A.agg [cGet t6 0, cGet t6 1, cGet t6 2], A.agg [cGet t7 0, cGet t7 1], A.agg [cGet t8 0, cGet t8 1]]).bind (fin false)).bind fun t26 =>
    (pTup t26 0).bind fun t27 =>
    (pTup t26 1).bind fun t28 =>
    ((G 11 [A.agg [cGet t6 0, cGet t6 1, cGet t6 2], A.agg [cGet t7 0, cGet t7 1], A.agg [cGet t8 0, cGet t8 1]]).bind (fin false)).bind fun t29 =>
    (pTup t29 0).bind fun t30 =>
    (pTup t29 1).bind fun t31 =>
    (pBin .neq true t25 t31).bind fun t32 =>
    (pG t32 false (some t28)).bind fun t33 =>
    (pG t32 false (some t31)).bind fun t34 =>
    (pG t32 false (pBin .neq true t33 t34)).bind fun t35 =>
    (pPick t32 (vb true) t35).bind fun t36 =>
    (pBool t36).bind fun t37 =>
    brn t37 (
      some ((vb false, []))) (
      (pUn .not t25).bind fun t38 =>
      (pG t38 false (some t17)).bind fun t39 =>
      (pG t38 false (pUn .not t39)).bind fun t40 =>
      (pPick t38 (vb true) t40).bind fun t41 =>
      (pG t41 false (some t21)).bind fun t42 =>
      (pG t41 false (pUn .not t42)).bind fun t43 =>
      (pPick t41 (vb true) t43).bind fun t44 =>
      (pBool t44).bind fun t45 =>
      brn t45 (
        some ((vb true, []))) (
        ((G 9 [A.agg [cGet t6 0, cGet t6 1, cGet t6 2], A.agg [cGet t18 0, cGet t18 1], A.agg [cGet t22 0, cGet t22 1]]).bind (fin false)).bind fun t46 =>
        (pTup t46 0).bind fun t47 =>
        (pTup t46 1).bind fun t48 =>
        ((G 10 [A.agg [cGet t6 0, cGet t6 1, cGet t6 2], A.agg [cGet t18 0, cGet t18 1], A.agg [cGet t22 0, cGet t22 1]]).bind (fin false)).bind fun t49 =>
        (pTup t49 0).bind fun t50 =>
        (pTup t49 1).bind fun t51 =>
        ((G 11 [A.agg [cGet t6 0, cGet t6 1, cGet t6 2], A.agg [cGet t18 0, cGet t18 1], A.agg [cGet t22 0, cGet t22 1]]).bind (fin false)).bind fun t52 =>
        (pTup t52 0).bind fun t53 =>
        (pTup t52 1).bind fun t54 =>
        (pBin .neq true t48 t54).bind fun t55 =>
        (pG t55 false (some t51)).bind fun t56 =>
        (pG t55 false (some t54)).bind fun t57 =>
        (pG t55 false (pBin .neq true t56 t57)).bind fun t58 =>
        (pPick t55 (vb true) t58).bind fun t59 =>
        (pBool t59).bind fun t60 =>
        brn t60 (
          some ((vb false, []))) (
          (pUn .not t48).bind fun t61 =>
          (pG t61 false (some t24)).bind fun t62 =>
          (pG t61 false (pBin .neq false t62 (vi 2))).bind fun t63 =>
          (pG t61 false (some t63)).bind fun t64 =>
          (pG t64 false (some t47)).bind fun t65 =>
          (pG t64 false (pBin .eql false t65 (vi 2))).bind fun t66 =>
          (pG t61 false (pPick t64 (vb true) t66)).bind fun t67 =>
          (pG t61 false (some t67)).bind fun t68 =>
          (pG t68 true (some t27)).bind fun t69 =>
          (pG t68 true (pBin .neq false t69 (vi 2))).bind fun t70 =>
          (pG t68 true (some t70)).bind fun t71 =>
          (pG t71 false (some t50)).bind fun t72 =>
          (pG t71 false (pBin .eql false t72 (vi 2))).bind fun t73 =>
          (pG t68 true (pPick t71 (vb true) t73)).bind fun t74 =>
          (pG t61 false (pPick t68 t74 (vb false))).bind fun t75 =>
          (pPick t61 (vb true) t75).bind fun t76 =>
          some ((t76, [])))))) :=
  (G_eq rfl Tryz.func3 rfl rfl).trans (by kernel_rfl)
theorem g4 (a0 : A) : G 4 [a0] =
  (pLenL a0).bind fun t0 =>
  (pBin .gtr false t0 (vi 65536)).bind fun t1 =>
  some ((t1, [])) :=
  (G_eq rfl Tryz.func4 rfl rfl).trans (by kernel_rfl)
theorem g5 (a0 : A) : G 5 [a0] =
  brn (okA a0) (
    brn (okA a0) (
      (C12_0 a0 (vi 0) (A.val (.int .u64 0))).bind fun t0 =>
      (hD t0 0).bind fun t1 =>
      (hD t0 1).bind fun t2 =>
      (hD t0 2).bind fun t3 =>
      (hD t0 3).bind fun t4 =>
      (pCells 3 t4).bind fun t5 =>
      (C13_0 t1 t2 t3).bind fun t6 =>
      (hD t6 0).bind fun t7 =>
      (hD t6 1).bind fun t8 =>
      (hD t6 2).bind fun t9 =>
      (hD t6 3).bind fun t10 =>
      (pTup t10 0).bind fun t11 =>
      (pTup t10 1).bind fun t12 =>
      (pCells 2 t11).bind fun t13 =>
      (pCells 2 t12).bind fun t14 =>
      brn (okA (cGet t5 0)) (
        brn (okA (cGet t5 1)) (
          brn (okA (cGet t5 2)) (
            brn (okA (cGet t13 0)) (
              brn (okA (cGet t13 1)) (
                brn (okA (cGet t14 0)) (
                  brn (okA (cGet t14 1)) (
                    some ((A.tup [A.agg [cGet t5 0, cGet t5 1, cGet t5 2], A.agg [cGet t13 0, cGet t13 1], A.agg [cGet t14 0, cGet t14 1]], []))) (
                    none)) (
                  none)) (
                none)) (
              none)) (
            none)) (
          none)) (
        none)) (
      none)) (
    none) :=
  (G_eq rfl Tryz.func5 rfl rfl).trans (by kernel_rfl)
theorem g6 (a0 : A) : G 6 [a0] =
  brn (okA a0) (
    brn (okA a0) (
      (C14_0 a0 (vi 0) (A.val (.int .u64 0))).bind fun t0 =>
      (hD t0 0).bind fun t1 =>
      (hD t0 1).bind fun t2 =>
      (hD t0 2).bind fun t3 =>
      (hD t0 3).bind fun t4 =>
      (pCells 1 t4).bind fun t5 =>
      (C15_0 (vi 10) t1 t2 t3).bind fun t6 =>
      (hD t6 0).bind fun t7 =>
      (hD t6 1).bind fun t8 =>
      (hD t6 2).bind fun t9 =>
      (hD t6 3).bind fun t10 =>
      (pBool t10).bind fun t11 =>
      brn t11 (
        (C16_0 (vi 3) t7 t8 t9).bind fun t12 =>
        (hD t12 0).bind fun t13 =>
        (hD t12 1).bind fun t14 =>
        (hD t12 2).bind fun t15 =>
        (hD t12 3).bind fun t16 =>
        (hR 2 t12 4).bind fun t17 =>
        (C16_0 (vi 3) t13 t14 t15).bind fun t18 =>
        (hD t18 0).bind fun t19 =>
        (hD t18 1).bind fun t20 =>
        (hD t18 2).bind fun t21 =>
        (hD t18 3).bind fun t22 =>
        (hR 2 t18 4).bind fun t23 =>
        brn (okA t16) (
          brn (okA t22) (
            (C17_0 (vi 4) t19 t20 t21).bind fun t24 =>
            (hD t24 0).bind fun t25 =>
            (hD t24 1).bind fun t26 =>
            (hD t24 2).bind fun t27 =>
            (hD t24 3).bind fun t28 =>
            (hR 2 t24 4).bind fun t29 =>
            brn (okA t28) (
              brn (okA (cGet t5 0)) (
                some ((A.tup [A.agg [cGet t5 0], A.agg [sv [103], A.sl 2 [[sv [103], A.sl 2 [[t16, A.sl 2 t17], [t22, A.sl 2 t23]]], [t28, A.sl 2 t29]]]], []))) (
                none)) (
              none)) (
            none)) (
          none)) (
        (C18_0 t7 t8 t9).bind fun t30 =>
        (hD t30 0).bind fun t31 =>
        (hD t30 1).bind fun t32 =>
        (hD t30 2).bind fun t33 =>
        (hD t30 3).bind fun t34 =>
        brn (okA (cGet t5 0)) (
          (pCells 2 t34).bind fun t35 =>
          some ((A.tup [A.agg [cGet t5 0], A.agg [cGet t35 0, cGet t35 1]], []))) (
          none))) (
      none)) (
    none) :=
  (G_eq rfl Tryz.func6 rfl rfl).trans (by kernel_rfl)
theorem g7 (a0 a1 : A) : G 7 [a0, a1] =
  (pLenL a0).bind fun t0 =>
  (pBin .gtr false a1 t0).bind fun t1 =>
  (pBool t1).bind fun t2 =>
  brn t2 (
    (pLenL a0).bind fun t3 =>
    (pSlice 1 a0 (some t3) none).bind fun t4 =>
    (pRows 1 t4).bind fun t5 =>
    brn (pFit (rLenN t5) 1) (
      (pConv .u8 t3).bind fun t6 =>
      brn (okA t6) (
        brn (pFit ((rLenN t5) + (rLenN [[t6]])) 1) (
          some ((A.sl 1 (rApp t5 [[t6]]), []))) (
          none)) (
        none)) (
      none)) (
    (pSlice 1 a0 (some a1) none).bind fun t7 =>
    (pRows 1 t7).bind fun t8 =>
    brn (pFit (rLenN t8) 1) (
      (pConv .u8 a1).bind fun t9 =>
      brn (okA t9) (
        brn (pFit ((rLenN t8) + (rLenN [[t9]])) 1) (
          some ((A.sl 1 (rApp t8 [[t9]]), []))) (
          none)) (
        none)) (
      none)) :=
  (G_eq rfl Tryz.func7 rfl rfl).trans (by kernel_rfl)
theorem g8 (a0 a1 : A) : G 8 [a0, a1] =
  (pCells 1 a0).bind fun t0 =>
  (pCells 2 a1).bind fun t1 =>
  ((G 19 [A.agg [cGet t0 0]]).bind (fin false)).bind fun t2 =>
  (pUn .not t2).bind fun t3 =>
  (pWant t3 false).bind fun t4 =>
  (pG t3 false ((G 20 [A.agg [cGet t1 0, cGet t1 1]]).bind (fin false))).bind fun t5 =>
  (pG t3 false (pUn .not t5)).bind fun t6 =>
  (pPick t3 (vb true) t6).bind fun t7 =>
  (pBool t7).bind fun t8 =>
  brn t8 (
    some ((A.tup [A.agg [sv [], A.sl 2 []], vb false], []))) (
    ((G 21 [A.agg [cGet t0 0], A.agg [cGet t1 0, cGet t1 1]]).bind (fin false)).bind fun t9 =>
    (pCells 2 t9).bind fun t10 =>
    ((G 20 [A.agg [cGet t10 0, cGet t10 1]]).bind (fin false)).bind fun t11 =>
    (pUn .not t11).bind fun t12 =>
    (pBool t12).bind fun t13 =>
    brn t13 (
      some ((A.tup [A.agg [sv [], A.sl 2 []], vb false], []))) (
      brn (okA (cGet t10 0)) (
        brn (okA (cGet t10 1)) (
          some ((A.tup [A.agg [cGet t10 0, cGet t10 1], vb true], []))) (
          none)) (
        none))) :=
  (G_eq rfl Tryz.func8 rfl rfl).trans (by kernel_rfl)
theorem g9 (a0 a1 a2 : A) : G 9 [a0, a1, a2] =
  (pCells 3 a0).bind fun t0 =>
  (pCells 2 a1).bind fun t1 =>
  (pCells 2 a2).bind fun t2 =>
  brn (okA (cGet t1 0)) (
    brn (okA (cGet t1 1)) (
      brn (okA (cGet t2 0)) (
        brn (okA (cGet t2 1)) (
          ((G 22 [A.agg [cGet t0 0, cGet t0 1, cGet t0 2], A.sl 2 [[cGet t1 0, cGet t1 1], [cGet t2 0, cGet t2 1]]]).bind (fin true)).bind fun t3 =>
          (pUn .not t3).bind fun t4 =>
          (pBool t4).bind fun t5 =>
          brn t5 (
            some ((A.tup [vi 0, vb false], []))) (
            ((G 23 [A.agg [cGet t0 0, cGet t0 1, cGet t0 2], A.agg [cGet t1 0, cGet t1 1], A.agg [cGet t2 0, cGet t2 1]]).bind (fin false)).bind fun t6 =>
            some ((A.tup [t6, vb true], [])))) (
          none)) (
        none)) (
      none)) (
    none) :=
  (G_eq rfl Tryz.func9 rfl rfl).trans (by kernel_rfl)
theorem g10 (a0 a1 a2 : A) : G 10 [a0, a1, a2] =
  (pCells 3 a0).bind fun t0 =>
  (pCells 2 a1).bind fun t1 =>
  (pCells 2 a2).bind fun t2 =>
  brn (okA (cGet t1 0)) (
    brn (okA (cGet t1 1)) (
      brn (okA (cGet t2 0)) (
        brn (okA (cGet t2 1)) (
          ((G 22 [A.agg [cGet t0 0, cGet t0 1, cGet t0 2], A.sl 2 [[cGet t1 0, cGet t1 1], [cGet t2 0, cGet t2 1]]]).bind (fin true)).bind fun t3 =>
          (pUn .not t3).bind fun t4 =>
          (pBool t4).bind fun t5 =>
          brn t5 (
            some ((A.tup [vi 0, vb false], []))) (
            ((G 25 [A.agg [cGet t1 0, cGet t1 1], A.agg [cGet t2 0, cGet t2 1]]).bind (fin false)).bind fun t6 =>
            ((G 24 [t6, A.fn 26 [A.elt [cGet t0 0, cGet t0 1, cGet t0 2] 0, A.elt [cGet t1 0, cGet t1 1] 0, A.elt [cGet t2 0, cGet t2 1] 0], A.fn 28 [A.elt [cGet t0 0, cGet t0 1, cGet t0 2] 0, A.elt [cGet t2 0, cGet t2 1] 0, A.elt [cGet t1 0, cGet t1 1] 0]]).bind (fin true)).bind fun t7 =>
            some ((A.tup [t7, vb true], [])))) (
          none)) (
        none)) (
      none)) (
    none) :=
  (G_eq rfl Tryz.func10 rfl rfl).trans (by kernel_rfl)
theorem g11 (a0 a1 a2 : A) : G 11 [a0, a1, a2] =
  (pCells 3 a0).bind fun t0 =>
  (pCells 2 a1).bind fun t1 =>
  (pCells 2 a2).bind fun t2 =>
  ((G 29 [A.agg [cGet t0 0, cGet t0 1, cGet t0 2]]).bind (fin false)).bind fun t3 =>
  (pUn .not t3).bind fun t4 =>
  (pWant t4 false).bind fun t5 =>
  (pWant t4 false).bind fun t6 =>
  (pG t4 false ((G 30 [A.agg [cGet t0 0, cGet t0 1, cGet t0 2], A.agg [cGet t1 0, cGet t1 1]]).bind (fin false))).bind fun t7 =>
  (pG t4 false (pUn .not t7)).bind fun t8 =>
  (pPick t4 (vb true) t8).bind fun t9 =>
  (pWant t9 false).bind fun t10 =>
  (pWant t9 false).bind fun t11 =>
  (pG t9 false ((G 30 [A.agg [cGet t0 0, cGet t0 1, cGet t0 2], A.agg [cGet t2 0, cGet t2 1]]).bind (fin false))).bind fun t12 =>
  (pG t9 false (pUn .not t12)).bind fun t13 =>
  (pPick t9 (vb true) t13).bind fun t14 =>
  (pBool t14).bind fun t15 =>
  brn t15 (
    some ((A.tup [vi 0, vb false], []))) (
    ((G 32 [A.agg [cGet t1 0, cGet t1 1], A.agg [cGet t2 0, cGet t2 1]]).bind (fin false)).bind fun t16 =>
    ((G 33 [A.agg [cGet t0 0, cGet t0 1, cGet t0 2], A.agg [cGet t1 0, cGet t1 1], A.agg [cGet t2 0, cGet t2 1]]).bind (fin false)).bind fun t17 =>
    ((G 33 [A.agg [cGet t0 0, cGet t0 1, cGet t0 2], A.agg [cGet t2 0, cGet t2 1], A.agg [cGet t1 0, cGet t1 1]]).bind (fin false)).bind fun t18 =>
    ((G 31 [t16, t17, t18]).bind (fin false)).bind fun t19 =>
    some ((A.tup [t19, vb true], []))) :=
  (G_eq rfl Tryz.func11 rfl rfl).trans (by kernel_rfl)
theorem c12_0 (x0 x1 x2 : A) : C12_0 x0 x1 x2 =
  (C34_0 (vi 2) x0 x1 x2).bind fun t0 =>
  (hD t0 0).bind fun t1 =>
  (hD t0 1).bind fun t2 =>
  (hD t0 2).bind fun t3 =>
  (hD t0 3).bind fun t4 =>
  (pBin .add false (vi 1) t4).bind fun t5 =>
  brn (okA t5) (
    brn (okA t5) (
      L12c0_0 t1 t2 t3 (vi 0) t5 [[sv [97]], [sv [98]], [sv [102]], [sv [103]], [sv [112]], [sv [113]], [sv [114]]] [] [] [] []) (
      none)) (
    none) :=
  (V_eq rfl Tryz.func12 rfl rfl).trans (by kernel_rfl)
theorem l12c0_0 (x0 x1 x2 x3 x4 : A) (r0 r1 r2 r3 r4 : List (List A)) : L12c0_0 x0 x1 x2 x3 x4 r0 r1 r2 r3 r4 =
  (pBin .gtr false (rLen r0) (vi 0)).bind fun t6 =>
  (pBool t6).bind fun t7 =>
  brn t7 (
    (C34_0 (rLen r0) x0 x1 x2).bind fun t8 =>
    (hD t8 0).bind fun t9 =>
    (hD t8 1).bind fun t10 =>
    (hD t8 2).bind fun t11 =>
    (hD t8 3).bind fun t12 =>
    (pIx (rLenN r0) t12).bind fun t13 =>
    (pRowP r0 t13 0).bind fun t14 =>
    brn (okA t14) (
      brn (pFit ((rLenN r3) + (rLenN [[t14]])) 16) (
        (pB (rCnt r0) (rRem r0 0) (some t12)).bind fun t15 =>
        brn (pFit (rLenN (rWin r0 0 (nSub t15 0))) 16) (
          (pBin .add false t12 (vi 1)).bind fun t16 =>
          (pB (rCnt r0) (rRem r0 0) none).bind fun t17 =>
          (pB 0 t17 (some t16)).bind fun t18 =>
          brn (pFit ((rLenN (rWin r0 0 (nSub t15 0))) + (rLenN (rWin r0 (0 + t18) (nSub t17 t18)))) 16) (
            (C35_0 t9 t10 t11 [[vi 0], [vi 0], [vi 0], [vi 1], [vi 2]]).bind fun t19 =>
            (hD t19 0).bind fun t20 =>
            (hD t19 1).bind fun t21 =>
            (hD t19 2).bind fun t22 =>
            (hD t19 3).bind fun t23 =>
            (pBin .add false x4 t23).bind fun t24 =>
            brn (okA t24) (
              brn (pFit ((rLenN r4) + (rLenN [[t24]])) 8) (
                L12c0_0 t20 t21 t22 x3 x4 (rApp (rWin r0 0 (nSub t15 0)) (rWin r0 (0 + t18) (nSub t17 t18))) r1 r2 (rApp r3 [[t14]]) (rApp r4 [[t24]])) (
                none)) (
              none)) (
            none)) (
          none)) (
        none)) (
      none)) (
    (C34_0 (vi 40) x0 x1 x2).bind fun t25 =>
    (hD t25 0).bind fun t26 =>
    (hD t25 1).bind fun t27 =>
    (hD t25 2).bind fun t28 =>
    (hD t25 3).bind fun t29 =>
    (pBin .eql false t29 (vi 0)).bind fun t30 =>
    (pBool t30).bind fun t31 =>
    brn t31 (
      (C36_0 t26 t27 t28 [[sv [88]], [sv []], [sv [102]], [sv [61]], [sv [120, 95, 49]]]).bind fun t32 =>
      (hD t32 0).bind fun t33 =>
      (hD t32 1).bind fun t34 =>
      (hD t32 2).bind fun t35 =>
      (hD t32 3).bind fun t36 =>
      (pIx (rLenN r3) (vi 0)).bind fun t37 =>
      brn (okA t36) (
        (rGet r3 t37).bind fun t38 =>
        brn (okA x4) (
          some ((A.top, [t33, t34, t35, A.agg [A.sl 1 (rSet r3 t37 (cOver t38 0 [t36])), A.sl 1 r4, x4]]))) (
          none)) (
        none)) (
      (pBin .eql false t29 (vi 1)).bind fun t39 =>
      (pBool t39).bind fun t40 =>
      brn t40 (
        (C34_0 (vi 7) t26 t27 t28).bind fun t41 =>
        (hD t41 0).bind fun t42 =>
        (hD t41 1).bind fun t43 =>
        (hD t41 2).bind fun t44 =>
        (hD t41 3).bind fun t45 =>
        (C35_0 t42 t43 t44 [[vi 0], [vi 101], [vi 100], [vi (-1)]]).bind fun t46 =>
        (hD t46 0).bind fun t47 =>
        (hD t46 1).bind fun t48 =>
        (hD t46 2).bind fun t49 =>
        (hD t46 3).bind fun t50 =>
        (pIx (rLenN r4) t45).bind fun t51 =>
        brn (okA t50) (
          (rGet r4 t51).bind fun t52 =>
          brn (okA x4) (
            some ((A.top, [t47, t48, t49, A.agg [A.sl 1 r3, A.sl 1 (rSet r4 t51 (cOver t52 0 [t50])), x4]]))) (
            none)) (
          none)) (
        (pBin .eql false t29 (vi 2)).bind fun t53 =>
        (pBool t53).bind fun t54 =>
        brn t54 (
          (C35_0 t26 t27 t28 [[vi 0], [vi 3], [vi 101]]).bind fun t55 =>
          (hD t55 0).bind fun t56 =>
          (hD t55 1).bind fun t57 =>
          (hD t55 2).bind fun t58 =>
          (hD t55 3).bind fun t59 =>
          brn (okA t59) (
            brn (okA t59) (
              some ((A.top, [t56, t57, t58, A.agg [A.sl 1 r3, A.sl 1 r4, t59]]))) (
              none)) (
            none)) (
          (pBin .eql false t29 (vi 3)).bind fun t60 =>
          (pBool t60).bind fun t61 =>
          brn t61 (
            (pB (rCnt r4) (rRem r4 0) none).bind fun t62 =>
            (pB 0 t62 (some (vi 1))).bind fun t63 =>
            brn (okA x4) (
              some ((A.top, [t26, t27, t28, A.agg [A.sl 1 r3, A.sl 1 (List.take (nSub t62 t63) (List.drop (0 + t63) r4)), x4]]))) (
              none)) (
            (pBin .eql false t29 (vi 4)).bind fun t64 =>
            (pBool t64).bind fun t65 =>
            brn t65 (
              (pB (rCnt r3) (rRem r3 0) none).bind fun t66 =>
              (pB 0 t66 (some (vi 1))).bind fun t67 =>
              (pB (rCnt r4) (rRem r4 0) none).bind fun t68 =>
              (pB 0 t68 (some (vi 1))).bind fun t69 =>
              brn (okA x4) (
                some ((A.top, [t26, t27, t28, A.agg [A.sl 1 (List.take (nSub t66 t67) (List.drop (0 + t67) r3)), A.sl 1 (List.take (nSub t68 t69) (List.drop (0 + t69) r4)), x4]]))) (
                none)) (
              brn (okA x4) (
                some ((A.top, [t26, t27, t28, A.agg [A.sl 1 r3, A.sl 1 r4, x4]]))) (
                none))))))) :=
  (H_eq Tryz.func12 rfl).trans (by kernel_rfl)
theorem c13_0 (x0 x1 x2 : A) : C13_0 x0 x1 x2 =
  (C37_0 x0 x1 x2).bind fun t0 =>
  (hD t0 0).bind fun t1 =>
  (hD t0 1).bind fun t2 =>
  (hD t0 2).bind fun t3 =>
  (hD t0 3).bind fun t4 =>
  (hR 2 t0 4).bind fun t5 =>
  brn (okA t4) (
    (C37_0 t1 t2 t3).bind fun t6 =>
    (hD t6 0).bind fun t7 =>
    (hD t6 1).bind fun t8 =>
    (hD t6 2).bind fun t9 =>
    (hD t6 3).bind fun t10 =>
    (hR 2 t6 4).bind fun t11 =>
    brn (okA t10) (
      (C34_0 (vi 6) t7 t8 t9).bind fun t12 =>
      (hD t12 0).bind fun t13 =>
      (hD t12 1).bind fun t14 =>
      (hD t12 2).bind fun t15 =>
      (hD t12 3).bind fun t16 =>
      (pBin .eql false t16 (vi 0)).bind fun t17 =>
      (pBool t17).bind fun t18 =>
      brn t18 (
        (G 38 [A.agg [t4, A.sl 2 t5]]).bind fun t19 =>
        (fin false t19).bind fun t20 =>
        (pCells 2 t20).bind fun t21 =>
        (C15_0 (vi 20) t13 t14 t15).bind fun t22 =>
        (hD t22 0).bind fun t23 =>
        (hD t22 1).bind fun t24 =>
        (hD t22 2).bind fun t25 =>
        (hD t22 3).bind fun t26 =>
        (pBool t26).bind fun t27 =>
        brn t27 (
          (C39_0 t23 t24 t25).bind fun t28 =>
          (hD t28 0).bind fun t29 =>
          (hD t28 1).bind fun t30 =>
          (hD t28 2).bind fun t31 =>
          (hD t28 3).bind fun t32 =>
          (pCells 2 t32).bind fun t33 =>
          brn (okA t4) (
            brn (okA (cGet t33 0)) (
              brn (okA (cGet t33 1)) (
                some ((A.top, [t29, t30, t31, A.tup [A.agg [t4, A.sl 2 t5], A.agg [cGet t33 0, cGet t33 1]]]))) (
                none)) (
              none)) (
            none)) (
          brn (okA t4) (
            some ((A.top, [t23, t24, t25, A.tup [A.agg [t4, A.sl 2 t5], A.agg [sv [102], A.sl 2 [[cGet t21 0, cGet t21 1]]]]]))) (
            none))) (
        (pBin .eql false t16 (vi 1)).bind fun t34 =>
        (pBool t34).bind fun t35 =>
        brn t35 (
          (G 38 [A.agg [t10, A.sl 2 t11]]).bind fun t36 =>
          (fin false t36).bind fun t37 =>
          (C37_0 t13 t14 t15).bind fun t38 =>
          (hD t38 0).bind fun t39 =>
          (hD t38 1).bind fun t40 =>
          (hD t38 2).bind fun t41 =>
          (hD t38 3).bind fun t42 =>
          (hR 2 t38 4).bind fun t43 =>
          (pCells 2 t37).bind fun t44 =>
          brn (okA t42) (
            (C15_0 (vi 20) t39 t40 t41).bind fun t45 =>
            (hD t45 0).bind fun t46 =>
            (hD t45 1).bind fun t47 =>
            (hD t45 2).bind fun t48 =>
            (hD t45 3).bind fun t49 =>
            (pBool t49).bind fun t50 =>
            brn t50 (
              (C39_0 t46 t47 t48).bind fun t51 =>
              (hD t51 0).bind fun t52 =>
              (hD t51 1).bind fun t53 =>
              (hD t51 2).bind fun t54 =>
              (hD t51 3).bind fun t55 =>
              (pCells 2 t55).bind fun t56 =>
              brn (okA (cGet t56 0)) (
                brn (okA (cGet t56 1)) (
                  some ((A.top, [t52, t53, t54, A.tup [A.agg [sv [103], A.sl 2 [[cGet t44 0, cGet t44 1], [t42, A.sl 2 t43]]], A.agg [cGet t56 0, cGet t56 1]]]))) (
                  none)) (
                none)) (
              brn (okA t10) (
                some ((A.top, [t46, t47, t48, A.tup [A.agg [sv [103], A.sl 2 [[cGet t44 0, cGet t44 1], [t42, A.sl 2 t43]]], A.agg [t10, A.sl 2 t11]]]))) (
                none))) (
            none)) (
          (pBin .eql false t16 (vi 2)).bind fun t57 =>
          (pBool t57).bind fun t58 =>
          brn t58 (
            (G 38 [A.agg [t4, A.sl 2 t5]]).bind fun t59 =>
            (fin false t59).bind fun t60 =>
            (C37_0 t13 t14 t15).bind fun t61 =>
            (hD t61 0).bind fun t62 =>
            (hD t61 1).bind fun t63 =>
            (hD t61 2).bind fun t64 =>
            (hD t61 3).bind fun t65 =>
            (hR 2 t61 4).bind fun t66 =>
            (pCells 2 t60).bind fun t67 =>
            brn (okA t65) (
              (G 38 [A.agg [t4, A.sl 2 t5]]).bind fun t68 =>
              (fin false t68).bind fun t69 =>
              (C37_0 t62 t63 t64).bind fun t70 =>
              (hD t70 0).bind fun t71 =>
              (hD t70 1).bind fun t72 =>
              (hD t70 2).bind fun t73 =>
              (hD t70 3).bind fun t74 =>
              (hR 2 t70 4).bind fun t75 =>
              (pCells 2 t69).bind fun t76 =>
              brn (okA t74) (
                (C15_0 (vi 20) t71 t72 t73).bind fun t77 =>
                (hD t77 0).bind fun t78 =>
                (hD t77 1).bind fun t79 =>
                (hD t77 2).bind fun t80 =>
                (hD t77 3).bind fun t81 =>
                (pBool t81).bind fun t82 =>
                brn t82 (
                  (C39_0 t78 t79 t80).bind fun t83 =>
                  (hD t83 0).bind fun t84 =>
                  (hD t83 1).bind fun t85 =>
                  (hD t83 2).bind fun t86 =>
                  (hD t83 3).bind fun t87 =>
                  (pCells 2 t87).bind fun t88 =>
                  brn (okA (cGet t88 0)) (
                    brn (okA (cGet t88 1)) (
                      some ((A.top, [t84, t85, t86, A.tup [A.agg [sv [103], A.sl 2 [[cGet t76 0, cGet t76 1], [t74, A.sl 2 t75]]], A.agg [cGet t88 0, cGet t88 1]]]))) (
                      none)) (
                    none)) (
                  some ((A.top, [t78, t79, t80, A.tup [A.agg [sv [103], A.sl 2 [[cGet t76 0, cGet t76 1], [t74, A.sl 2 t75]]], A.agg [sv [103], A.sl 2 [[cGet t67 0, cGet t67 1], [t65, A.sl 2 t66]]]]])))) (
                none)) (
              none)) (
            (C15_0 (vi 20) t13 t14 t15).bind fun t89 =>
            (hD t89 0).bind fun t90 =>
            (hD t89 1).bind fun t91 =>
            (hD t89 2).bind fun t92 =>
            (hD t89 3).bind fun t93 =>
            (pBool t93).bind fun t94 =>
            brn t94 (
              (C39_0 t90 t91 t92).bind fun t95 =>
              (hD t95 0).bind fun t96 =>
              (hD t95 1).bind fun t97 =>
              (hD t95 2).bind fun t98 =>
              (hD t95 3).bind fun t99 =>
              (pCells 2 t99).bind fun t100 =>
              brn (okA t4) (
                brn (okA (cGet t100 0)) (
                  brn (okA (cGet t100 1)) (
                    some ((A.top, [t96, t97, t98, A.tup [A.agg [t4, A.sl 2 t5], A.agg [cGet t100 0, cGet t100 1]]]))) (
                    none)) (
                  none)) (
                none)) (
              brn (okA t4) (
                brn (okA t10) (
                  some ((A.top, [t90, t91, t92, A.tup [A.agg [t4, A.sl 2 t5], A.agg [t10, A.sl 2 t11]]]))) (
                  none)) (
                none)))))) (
      none)) (
    none) :=
  (V_eq rfl Tryz.func13 rfl rfl).trans (by kernel_rfl)
theorem c14_0 (x0 x1 x2 : A) : C14_0 x0 x1 x2 =
  (C40_0 x0 x1 x2).bind fun t0 =>
  (hD t0 0).bind fun t1 =>
  (hD t0 1).bind fun t2 =>
  (hD t0 2).bind fun t3 =>
  (hR 3 t0 3).bind fun t4 =>
  (pBin .eql false (rLen t4) (vi 0)).bind fun t5 =>
  (pBool t5).bind fun t6 =>
  brn t6 (
    some ((A.top, [t1, t2, t3, A.agg [A.sl 3 t4]]))) (
    (C34_0 (rLen t4) t1 t2 t3).bind fun t7 =>
    (hD t7 0).bind fun t8 =>
    (hD t7 1).bind fun t9 =>
    (hD t7 2).bind fun t10 =>
    (hD t7 3).bind fun t11 =>
    (pIx (rLenN t4) t11).bind fun t12 =>
    (pRowN t4 t12 0 3).bind fun t13 =>
    (pCells 3 t13).bind fun t14 =>
    (C34_0 (vi 24) t8 t9 t10).bind fun t15 =>
    (hD t15 0).bind fun t16 =>
    (hD t15 1).bind fun t17 =>
    (hD t15 2).bind fun t18 =>
    (hD t15 3).bind fun t19 =>
    (pBin .eql false t19 (vi 0)).bind fun t20 =>
    (pBool t20).bind fun t21 =>
    brn t21 (
      (C36_0 t16 t17 t18 [[sv [97]], [sv []], [sv [84]], [sv [90]], [sv [90, 122]]]).bind fun t22 =>
      (hD t22 0).bind fun t23 =>
      (hD t22 1).bind fun t24 =>
      (hD t22 2).bind fun t25 =>
      (hD t22 3).bind fun t26 =>
      brn (okA t26) (
        (pIx (rLenN t4) t11).bind fun t27 =>
        brn (okA t26) (
          brn (okA (cGet t14 1)) (
            brn (okA (cGet t14 2)) (
              (rGet t4 t27).bind fun t28 =>
              some ((A.top, [t23, t24, t25, A.agg [A.sl 3 (rSet t4 t27 (cOver t28 0 [t26, cGet t14 1, cGet t14 2]))]]))) (
              none)) (
            none)) (
          none)) (
        none)) (
      (pBin .eql false t19 (vi 1)).bind fun t29 =>
      (pBool t29).bind fun t30 =>
      brn t30 (
        brn (okA (cGet t14 0)) (
          brn (okA (cGet t14 0)) (
            (pIx (rLenN t4) t11).bind fun t31 =>
            brn (okA (cGet t14 0)) (
              brn (okA (cGet t14 0)) (
                (rGet t4 t31).bind fun t32 =>
                some ((A.top, [t16, t17, t18, A.agg [A.sl 3 (rSet t4 t31 (cOver t32 0 [cGet t14 0, cGet t14 0, A.sl 2 []]))]]))) (
                none)) (
              none)) (
            none)) (
          none)) (
        (pBin .eql false t19 (vi 2)).bind fun t33 =>
        (pBool t33).bind fun t34 =>
        brn t34 (
          (C39_0 t16 t17 t18).bind fun t35 =>
          (hD t35 0).bind fun t36 =>
          (hD t35 1).bind fun t37 =>
          (hD t35 2).bind fun t38 =>
          (hD t35 3).bind fun t39 =>
          (pCells 2 t39).bind fun t40 =>
          (pIx (rLenN t4) t11).bind fun t41 =>
          brn (okA (cGet t14 0)) (
            brn (okA (cGet t40 0)) (
              brn (okA (cGet t40 1)) (
                (rGet t4 t41).bind fun t42 =>
                some ((A.top, [t36, t37, t38, A.agg [A.sl 3 (rSet t4 t41 (cOver t42 0 [cGet t14 0, cGet t40 0, cGet t40 1]))]]))) (
                none)) (
              none)) (
            none)) (
          (pBin .eql false t19 (vi 3)).bind fun t43 =>
          (pBool t43).bind fun t44 =>
          brn t44 (
            L14c0_0 (vi 0) t16 t17 t18 t4 []) (
            (pBin .eql false t19 (vi 4)).bind fun t45 =>
            (pBool t45).bind fun t46 =>
            brn t46 (
              (C34_0 (vi 4) t16 t17 t18).bind fun t47 =>
              (hD t47 0).bind fun t48 =>
              (hD t47 1).bind fun t49 =>
              (hD t47 2).bind fun t50 =>
              (hD t47 3).bind fun t51 =>
              (pBin .add false (vi 5) t51).bind fun t52 =>
              (C17_0 t52 t48 t49 t50).bind fun t53 =>
              (hD t53 0).bind fun t54 =>
              (hD t53 1).bind fun t55 =>
              (hD t53 2).bind fun t56 =>
              (hD t53 3).bind fun t57 =>
              (hR 2 t53 4).bind fun t58 =>
              brn (okA t57) (
                (pIx (rLenN t4) t11).bind fun t59 =>
                brn (okA (cGet t14 0)) (
                  brn (okA t57) (
                    (rGet t4 t59).bind fun t60 =>
                    some ((A.top, [t54, t55, t56, A.agg [A.sl 3 (rSet t4 t59 (cOver t60 0 [cGet t14 0, t57, A.sl 2 t58]))]]))) (
                    none)) (
                  none)) (
                none)) (
              (pIx (rLenN t4) t11).bind fun t61 =>
              brn (okA (cGet t14 0)) (
                brn (okA (cGet t14 1)) (
                  brn (okA (cGet t14 2)) (
                    (rGet t4 t61).bind fun t62 =>
                    some ((A.top, [t16, t17, t18, A.agg [A.sl 3 (rSet t4 t61 (cOver t62 0 [cGet t14 0, cGet t14 1, cGet t14 2]))]]))) (
                    none)) (
                  none)) (
                none))))))) :=
  (V_eq rfl Tryz.func14 rfl rfl).trans (by kernel_rfl)
theorem l14c0_0 (x0 x1 x2 x3 : A) (r0 r1 : List (List A)) : L14c0_0 x0 x1 x2 x3 r0 r1 =
  (pBin .lss false x0 (vi 9)).bind fun t63 =>
  (pBool t63).bind fun t64 =>
  brn t64 (
    (pBin .add false x0 (vi 1)).bind fun t65 =>
    ((G 41 [t65]).bind (fin false)).bind fun t66 =>
    (pBin .add false (sv [90]) t66).bind fun t67 =>
    brn (okA t67) (
      brn (okA t67) (
        brn (pFit ((rLenN r0) + (rLenN [[t67, sv [97], A.sl 2 []]])) 56) (
          (pBin .add false x0 (vi 1)).bind fun t68 =>
          L14c0_1 t68 x1 x2 x3 r1 (rApp r0 [[t67, sv [97], A.sl 2 []]])) (
          none)) (
        none)) (
      none)) (
    some ((A.top, [x1, x2, x3, A.agg [A.sl 3 r0]]))) :=
  (H_eq Tryz.func14 rfl).trans (by kernel_rfl)
theorem l14c0_1 (x0 x1 x2 x3 : A) (r0 r1 : List (List A)) : L14c0_1 x0 x1 x2 x3 r0 r1 =
  (pBin .lss false x0 (vi 9)).bind fun t69 =>
  (pBool t69).bind fun t70 =>
  brn t70 (
    (pBin .add false x0 (vi 1)).bind fun t71 =>
    ((G 41 [t71]).bind (fin false)).bind fun t72 =>
    (pBin .add false (sv [90]) t72).bind fun t73 =>
    brn (okA t73) (
      brn (okA t73) (
        brn (pFit ((rLenN r1) + (rLenN [[t73, sv [97], A.sl 2 []]])) 56) (
          (pBin .add false x0 (vi 1)).bind fun t74 =>
          L14c0_1 t74 x1 x2 x3 r0 (rApp r1 [[t73, sv [97], A.sl 2 []]])) (
          none)) (
        none)) (
      none)) (
    some ((A.top, [x1, x2, x3, A.agg [A.sl 3 r1]]))) :=
  (H_eq Tryz.func14 rfl).trans (by kernel_rfl)
theorem c15_0 (x0 x1 x2 x3 : A) : C15_0 x0 x1 x2 x3 =
  (C34_0 x0 x1 x2 x3).bind fun t0 =>
  (hD t0 0).bind fun t1 =>
  (hD t0 1).bind fun t2 =>
  (hD t0 2).bind fun t3 =>
  (hD t0 3).bind fun t4 =>
  (pBin .eql false t4 (vi 0)).bind fun t5 =>
  some ((A.top, [t1, t2, t3, t5])) :=
  (V_eq rfl Tryz.func15 rfl rfl).trans (by kernel_rfl)
theorem c16_0 (x0 x1 x2 x3 : A) : C16_0 x0 x1 x2 x3 =
  (pBin .leq false x0 (vi 1)).bind fun t0 =>
  (pWant t0 false).bind fun t1 =>
  (pWant t0 false).bind fun t2 =>
  brn t2 (
    (C15_0 (vi 3) x1 x2 x3).bind fun t3 =>
    (hD t3 0).bind fun t4 =>
    (hD t3 1).bind fun t5 =>
    (hD t3 2).bind fun t6 =>
    (hD t3 3).bind fun t7 =>
    (pPick t0 (vb true) t7).bind fun t8 =>
    (pBool t8).bind fun t9 =>
    brn t9 (
      (C36_0 t4 t5 t6 [[sv [88]], [sv [89]], [sv [90]], [sv [97]], [sv [98]], [sv [88]], [sv [97]]]).bind fun t10 =>
      (hD t10 0).bind fun t11 =>
      (hD t10 1).bind fun t12 =>
      (hD t10 2).bind fun t13 =>
      (hD t10 3).bind fun t14 =>
      brn (okA t14) (
        brn (okA t14) (
          some ((A.top, [t11, t12, t13, t14, A.sl 2 []]))) (
          none)) (
        none)) (
      (C15_0 (vi 2) t4 t5 t6).bind fun t15 =>
      (hD t15 0).bind fun t16 =>
      (hD t15 1).bind fun t17 =>
      (hD t15 2).bind fun t18 =>
      (hD t15 3).bind fun t19 =>
      (pBool t19).bind fun t20 =>
      brn t20 (
        (pBin .sub false x0 (vi 1)).bind fun t21 =>
        (C16_0 t21 t16 t17 t18).bind fun t22 =>
        (hD t22 0).bind fun t23 =>
        (hD t22 1).bind fun t24 =>
        (hD t22 2).bind fun t25 =>
        (hD t22 3).bind fun t26 =>
        (hR 2 t22 4).bind fun t27 =>
        brn (okA t26) (
          some ((A.top, [t23, t24, t25, sv [102], A.sl 2 [[t26, A.sl 2 t27]]]))) (
          none)) (
        (pBin .sub false x0 (vi 1)).bind fun t28 =>
        (C16_0 t28 t16 t17 t18).bind fun t29 =>
        (hD t29 0).bind fun t30 =>
        (hD t29 1).bind fun t31 =>
        (hD t29 2).bind fun t32 =>
        (hD t29 3).bind fun t33 =>
        (hR 2 t29 4).bind fun t34 =>
        (pBin .sub false x0 (vi 1)).bind fun t35 =>
        (C16_0 t35 t30 t31 t32).bind fun t36 =>
        (hD t36 0).bind fun t37 =>
        (hD t36 1).bind fun t38 =>
        (hD t36 2).bind fun t39 =>
        (hD t36 3).bind fun t40 =>
        (hR 2 t36 4).bind fun t41 =>
        brn (okA t33) (
          brn (okA t40) (
            some ((A.top, [t37, t38, t39, sv [103], A.sl 2 [[t33, A.sl 2 t34], [t40, A.sl 2 t41]]]))) (
            none)) (
          none)))) (
    (pPick t0 (vb true) (A.val undef)).bind fun t42 =>
    (pBool t42).bind fun t43 =>
    brn t43 (
      (C36_0 x1 x2 x3 [[sv [88]], [sv [89]], [sv [90]], [sv [97]], [sv [98]], [sv [88]], [sv [97]]]).bind fun t44 =>
      (hD t44 0).bind fun t45 =>
      (hD t44 1).bind fun t46 =>
      (hD t44 2).bind fun t47 =>
      (hD t44 3).bind fun t48 =>
      brn (okA t48) (
        brn (okA t48) (
          some ((A.top, [t45, t46, t47, t48, A.sl 2 []]))) (
          none)) (
        none)) (
      (C15_0 (vi 2) x1 x2 x3).bind fun t49 =>
      (hD t49 0).bind fun t50 =>
      (hD t49 1).bind fun t51 =>
      (hD t49 2).bind fun t52 =>
      (hD t49 3).bind fun t53 =>
      (pBool t53).bind fun t54 =>
      brn t54 (
        (pBin .sub false x0 (vi 1)).bind fun t55 =>
        (C16_0 t55 t50 t51 t52).bind fun t56 =>
        (hD t56 0).bind fun t57 =>
        (hD t56 1).bind fun t58 =>
        (hD t56 2).bind fun t59 =>
        (hD t56 3).bind fun t60 =>
        (hR 2 t56 4).bind fun t61 =>
        brn (okA t60) (
          some ((A.top, [t57, t58, t59, sv [102], A.sl 2 [[t60, A.sl 2 t61]]]))) (
          none)) (
        (pBin .sub false x0 (vi 1)).bind fun t62 =>
        (C16_0 t62 t50 t51 t52).bind fun t63 =>
        (hD t63 0).bind fun t64 =>
        (hD t63 1).bind fun t65 =>
        (hD t63 2).bind fun t66 =>
        (hD t63 3).bind fun t67 =>
        (hR 2 t63 4).bind fun t68 =>
        (pBin .sub false x0 (vi 1)).bind fun t69 =>
        (C16_0 t69 t64 t65 t66).bind fun t70 =>
        (hD t70 0).bind fun t71 =>
        (hD t70 1).bind fun t72 =>
        (hD t70 2).bind fun t73 =>
        (hD t70 3).bind fun t74 =>
        (hR 2 t70 4).bind fun t75 =>
        brn (okA t67) (
          brn (okA t74) (
            some ((A.top, [t71, t72, t73, sv [103], A.sl 2 [[t67, A.sl 2 t68], [t74, A.sl 2 t75]]]))) (
            none)) (
          none)))) :=
  (V_eq rfl Tryz.func16 rfl rfl).trans (by kernel_rfl)
theorem c17_0 (x0 x1 x2 x3 : A) : C17_0 x0 x1 x2 x3 =
  (C36_0 x1 x2 x3 [[sv [88]], [sv [97]]]).bind fun t0 =>
  (hD t0 0).bind fun t1 =>
  (hD t0 1).bind fun t2 =>
  (hD t0 2).bind fun t3 =>
  (hD t0 3).bind fun t4 =>
  brn (okA t4) (
    brn (okA t4) (
      L17c0_0 x0 (sv []) t4 t1 t2 t3 [] []) (
      none)) (
    none) :=
  (V_eq rfl Tryz.func17 rfl rfl).trans (by kernel_rfl)
theorem l17c0_0 (x0 x1 x2 x3 x4 x5 : A) (r0 r1 : List (List A)) : L17c0_0 x0 x1 x2 x3 x4 x5 r0 r1 =
  (pBin .gtr false x0 (vi 1)).bind fun t5 =>
  (pBool t5).bind fun t6 =>
  brn t6 (
    brn (okA x2) (
      (pBin .sub false x0 (vi 1)).bind fun t7 =>
      L17c0_0 t7 x1 (sv [102]) x3 x4 x5 r0 [[x2, A.sl 2 r1]]) (
      none)) (
    brn (okA x2) (
      some ((A.top, [x3, x4, x5, x2, A.sl 2 r1]))) (
      none)) :=
  (H_eq Tryz.func17 rfl).trans (by kernel_rfl)
theorem c18_0 (x0 x1 x2 : A) : C18_0 x0 x1 x2 =
  (C15_0 (vi 3) x0 x1 x2).bind fun t0 =>
  (hD t0 0).bind fun t1 =>
  (hD t0 1).bind fun t2 =>
  (hD t0 2).bind fun t3 =>
  (hD t0 3).bind fun t4 =>
  (pBool t4).bind fun t5 =>
  brn t5 (
    (C42_0 t1 t2 t3).bind fun t6 =>
    (hD t6 0).bind fun t7 =>
    (hD t6 1).bind fun t8 =>
    (hD t6 2).bind fun t9 =>
    (hD t6 3).bind fun t10 =>
    (hR 2 t6 4).bind fun t11 =>
    brn (okA t10) (
      (C15_0 (vi 12) t7 t8 t9).bind fun t12 =>
      (hD t12 0).bind fun t13 =>
      (hD t12 1).bind fun t14 =>
      (hD t12 2).bind fun t15 =>
      (hD t12 3).bind fun t16 =>
      (pBool t16).bind fun t17 =>
      brn t17 (
        (C37_0 t13 t14 t15).bind fun t18 =>
        (hD t18 0).bind fun t19 =>
        (hD t18 1).bind fun t20 =>
        (hD t18 2).bind fun t21 =>
        (hD t18 3).bind fun t22 =>
        (hR 2 t18 4).bind fun t23 =>
        brn (okA t22) (
          brn (pFit ((rLenN t11) + (rLenN [[t22, A.sl 2 t23]])) 40) (
            brn (okA t10) (
              some ((A.top, [t19, t20, t21, A.agg [t10, A.sl 2 (rApp t11 [[t22, A.sl 2 t23]])]]))) (
              none)) (
            none)) (
          none)) (
        brn (okA t10) (
          some ((A.top, [t13, t14, t15, A.agg [t10, A.sl 2 t11]]))) (
          none))) (
      none)) (
    (C39_0 t1 t2 t3).bind fun t24 =>
    (hD t24 0).bind fun t25 =>
    (hD t24 1).bind fun t26 =>
    (hD t24 2).bind fun t27 =>
    (hD t24 3).bind fun t28 =>
    (pCells 2 t28).bind fun t29 =>
    some ((A.top, [t25, t26, t27, A.agg [cGet t29 0, cGet t29 1]]))) :=
  (V_eq rfl Tryz.func18 rfl rfl).trans (by kernel_rfl)
theorem g19 (a0 : A) : G 19 [a0] =
  (pCells 1 a0).bind fun t0 =>
  L19_0 (vi 0) (cGet t0 0) :=
  (G_eq rfl Tryz.func19 rfl rfl).trans (by kernel_rfl)
theorem l19_0 (x0 x1 : A) : L19_0 x0 x1 =
  (pLenL x1).bind fun t1 =>
  (pBin .lss false x0 t1).bind fun t2 =>
  (pBool t2).bind fun t3 =>
  brn t3 (
    (pIndexAddr 3 x1 x0).bind fun t4 =>
    (pLoadN 3 t4).bind fun t5 =>
    (pCells 3 t5).bind fun t6 =>
    ((G 43 [cGet t6 0]).bind (fin false)).bind fun t7 =>
    (pUn .not t7).bind fun t8 =>
    (pWant t8 false).bind fun t9 =>
    (pWant t8 false).bind fun t10 =>
    (pG t8 false ((G 44 [A.agg [cGet t6 1, cGet t6 2]]).bind (fin false))).bind fun t11 =>
    (pG t8 false (pUn .not t11)).bind fun t12 =>
    (pPick t8 (vb true) t12).bind fun t13 =>
    (pWant t13 false).bind fun t14 =>
    (pWant t13 false).bind fun t15 =>
    (pG t13 false (some (cGet t6 1))).bind fun t16 =>
    (pWant t13 false).bind fun t17 =>
    (pG t13 false (some (cGet t6 0))).bind fun t18 =>
    (pG t13 false (pBin .eql false t16 t18)).bind fun t19 =>
    (pPick t13 (vb true) t19).bind fun t20 =>
    (pG t20 false (some x0)).bind fun t21 =>
    (pG t20 false (pBin .gtr false t21 (vi 0))).bind fun t22 =>
    (pG t20 false (some t22)).bind fun t23 =>
    (pWant t23 true).bind fun t24 =>
    (pG t23 true (some x1)).bind fun t25 =>
    (pG t23 true (some x0)).bind fun t26 =>
    (pG t23 true (pBin .sub false t26 (vi 1))).bind fun t27 =>
    (pG t23 true (pIndexAddr 3 t25 t27)).bind fun t28 =>
    (pG t23 true (pAdd t28 0)).bind fun t29 =>
    (pG t23 true (pLoadP t29)).bind fun t30 =>
    (pWant t23 true).bind fun t31 =>
    (pG t23 true (some (cGet t6 0))).bind fun t32 =>
    (pG t23 true (pBin .geq false t30 t32)).bind fun t33 =>
    (pG t20 false (pPick t23 t33 (vb false))).bind fun t34 =>
    (pPick t20 (vb true) t34).bind fun t35 =>
    (pBool t35).bind fun t36 =>
    brn t36 (
      some ((vb false, []))) (
      (pBin .add false x0 (vi 1)).bind fun t37 =>
      L19_0 t37 x1)) (
    (pLenL x1).bind fun t38 =>
    (pBin .leq false t38 (vi 12)).bind fun t39 =>
    some ((t39, []))) :=
  (H_eq Tryz.func19 rfl).trans (by kernel_rfl)
theorem g20 (a0 : A) : G 20 [a0] =
  (pCells 2 a0).bind fun t0 =>
  ((G 44 [A.agg [cGet t0 0, cGet t0 1]]).bind (fin false)).bind fun t1 =>
  (pWant t1 false).bind fun t2 =>
  (pG t1 false ((G 45 [A.agg [cGet t0 0, cGet t0 1]]).bind (fin false))).bind fun t3 =>
  (pPick t1 (vb true) t3).bind fun t4 =>
  some ((t4, [])) :=
  (G_eq rfl Tryz.func20 rfl rfl).trans (by kernel_rfl)
theorem g21 (a0 a1 : A) : G 21 [a0, a1] =
  (pCells 1 a0).bind fun t0 =>
  (pCells 2 a1).bind fun t1 =>
  ((G 43 [cGet t1 0]).bind (fin false)).bind fun t2 =>
  (pBool t2).bind fun t3 =>
  brn t3 (
    ((G 46 [A.agg [cGet t0 0], cGet t1 0]).bind (fin false)).bind fun t4 =>
    (pBin .geq false t4 (vi 0)).bind fun t5 =>
    (pBool t5).bind fun t6 =>
    brn t6 (
      (pIndexAddr 3 (cGet t0 0) t4).bind fun t7 =>
      (pAdd t7 1).bind fun t8 =>
      (pLoadN 2 t8).bind fun t9 =>
      (G 38 [t9]).bind fun t10 =>
      (fin false t10).bind fun t11 =>
      (pCells 2 t11).bind fun t12 =>
      some ((A.agg [cGet t12 0, cGet t12 1], []))) (
      brn (okA (cGet t1 0)) (
        brn (okA (cGet t1 0)) (
          some ((A.agg [cGet t1 0, A.sl 2 []], []))) (
          none)) (
        none))) (
    brn (okA (cGet t1 0)) (
      brn (okA (cGet t1 0)) (
        L21_0 (vi 0) (cGet t0 0) (cGet t1 0) (cGet t1 1) (sv []) (cGet t1 0) [] []) (
        none)) (
      none)) :=
  (G_eq rfl Tryz.func21 rfl rfl).trans (by kernel_rfl)
theorem l21_0 (x0 x1 x2 x3 x4 x5 : A) (r0 r1 : List (List A)) : L21_0 x0 x1 x2 x3 x4 x5 r0 r1 =
  (pLenL x3).bind fun t13 =>
  (pBin .lss false x0 t13).bind fun t14 =>
  (pBool t14).bind fun t15 =>
  brn t15 (
    (pIndexAddr 2 x3 x0).bind fun t16 =>
    (pLoadN 2 t16).bind fun t17 =>
    ((G 21 [A.agg [x1], t17]).bind (fin false)).bind fun t18 =>
    (pCells 2 t18).bind fun t19 =>
    brn (pFit ((rLenN r1) + (rLenN [[cGet t19 0, cGet t19 1]])) 40) (
      (pBin .add false x0 (vi 1)).bind fun t20 =>
      L21_0 t20 x1 x2 x3 x4 x5 r0 (rApp r1 [[cGet t19 0, cGet t19 1]])) (
      none)) (
    brn (okA x5) (
      some ((A.agg [x5, A.sl 2 r1], []))) (
      none)) :=
  (H_eq Tryz.func21 rfl).trans (by kernel_rfl)
theorem g22 (a0 a1 : A) : G 22 [a0, a1] =
  (pCells 3 a0).bind fun t0 =>
  ((G 47 [A.agg [cGet t0 0, cGet t0 1, cGet t0 2]]).bind (fin false)).bind fun t1 =>
  (pG t1 true (some a1)).bind fun t2 =>
  (pWant t1 true).bind fun t3 =>
  (pG t1 true ((G 48 [t2, A.fn 49 [A.elt [cGet t0 0, cGet t0 1, cGet t0 2] 0]]).bind (fin true))).bind fun t4 =>
  (pG t1 true (pUn .not t4)).bind fun t5 =>
  (pPick t1 t5 (vb false)).bind fun t6 =>
  some ((t6, [])) :=
  (G_eq rfl Tryz.func22 rfl rfl).trans (by kernel_rfl)
theorem g23 (a0 a1 a2 : A) : G 23 [a0, a1, a2] =
  (pCells 3 a0).bind fun t0 =>
  (pCells 2 a1).bind fun t1 =>
  (pCells 2 a2).bind fun t2 =>
  ((G 25 [A.agg [cGet t1 0, cGet t1 1], A.agg [cGet t2 0, cGet t2 1]]).bind (fin false)).bind fun t3 =>
  ((G 24 [t3, A.fn 52 [A.elt [cGet t0 0, cGet t0 1, cGet t0 2] 0, A.elt [cGet t1 0, cGet t1 1] 0, A.elt [cGet t2 0, cGet t2 1] 0], A.fn 54 [A.elt [cGet t0 0, cGet t0 1, cGet t0 2] 0, A.elt [cGet t2 0, cGet t2 1] 0, A.elt [cGet t1 0, cGet t1 1] 0]]).bind (fin true)).bind fun t4 =>
  some ((t4, [])) :=
  (G_eq rfl Tryz.func23 rfl rfl).trans (by kernel_rfl)
theorem g24 (a0 a1 a2 : A) : G 24 [a0, a1, a2] =
  (pBool a0).bind fun t0 =>
  brn t0 (
    some ((vi 1, []))) (
    (DX.run K (MM K) (.callc a1 [] false)).bind fun t1 =>
    (pBool t1).bind fun t2 =>
    brn t2 (
      some ((vi 2, []))) (
      (DX.run K (MM K) (.callc a2 [] false)).bind fun t3 =>
      (pBool t3).bind fun t4 =>
      brn t4 (
        some ((vi 3, []))) (
        some ((vi 0, []))))) :=
  (G_eq rfl Tryz.func24 rfl rfl).trans (by kernel_rfl)
theorem g25 (a0 a1 : A) : G 25 [a0, a1] =
  (pCells 2 a0).bind fun t0 =>
  (pCells 2 a1).bind fun t1 =>
  (pBin .eql false (cGet t0 0) (cGet t1 0)).bind fun t2 =>
  (pWant t2 true).bind fun t3 =>
  (pG t2 true (some (cGet t0 1))).bind fun t4 =>
  (pWant t2 true).bind fun t5 =>
  (pG t2 true (some (cGet t1 1))).bind fun t6 =>
  (pG t2 true ((G 55 [t4, t6, A.fn 25 []]).bind (fin false))).bind fun t7 =>
  (pPick t2 t7 (vb false)).bind fun t8 =>
  some ((t8, [])) :=
  (G_eq rfl Tryz.func25 rfl rfl).trans (by kernel_rfl)
theorem g26 (a0 a1 a2 : A) : G 26 [a0, a1, a2] =
  (pLoadN 3 a0).bind fun t0 =>
  (pLoadN 2 a1).bind fun t1 =>
  (pLoadN 2 a2).bind fun t2 =>
  ((G 27 [t0, t1, t2]).bind (fin false)).bind fun t3 =>
  some ((t3, [])) :=
  (G_eq rfl Tryz.func26 rfl rfl).trans (by kernel_rfl)
theorem g27 (a0 a1 a2 : A) : G 27 [a0, a1, a2] =
  (pCells 3 a0).bind fun t0 =>
  (pCells 2 a1).bind fun t1 =>
  (pCells 2 a2).bind fun t2 =>
  ((G 56 [A.agg [cGet t1 0, cGet t1 1]]).bind (fin false)).bind fun t3 =>
  (pBool t3).bind fun t4 =>
  brn t4 (
    some ((vb false, []))) (
    ((G 48 [cGet t1 1, A.fn 57 [A.elt [cGet t2 0, cGet t2 1] 0, A.elt [cGet t0 0, cGet t0 1, cGet t0 2] 0]]).bind (fin true)).bind fun t5 =>
    (pBool t5).bind fun t6 =>
    brn t6 (
      some ((vb true, []))) (
      ((G 56 [A.agg [cGet t2 0, cGet t2 1]]).bind (fin false)).bind fun t7 =>
      (pWant t7 false).bind fun t8 =>
      (pG t7 false (some (cGet t2 1))).bind fun t9 =>
      (pWant t7 false).bind fun t10 =>
      (pG t7 false ((G 48 [t9, A.fn 58 [A.elt [cGet t0 0, cGet t0 1, cGet t0 2] 0, A.elt [cGet t1 0, cGet t1 1] 0]]).bind (fin true))).bind fun t11 =>
      (pPick t7 (vb true) t11).bind fun t12 =>
      (pBool t12).bind fun t13 =>
      brn t13 (
        some ((vb false, []))) (
        ((G 59 [A.agg [cGet t0 0, cGet t0 1, cGet t0 2], A.agg [cGet t2 0, cGet t2 1], A.agg [cGet t1 0, cGet t1 1]]).bind (fin false)).bind fun t14 =>
        (pBool t14).bind fun t15 =>
        brn t15 (
          some ((vb true, []))) (
          ((G 60 [A.agg [cGet t1 0, cGet t1 1], A.agg [cGet t2 0, cGet t2 1]]).bind (fin false)).bind fun t16 =>
          (pTup t16 0).bind fun t17 =>
          (pTup t16 1).bind fun t18 =>
          (pTup t16 2).bind fun t19 =>
          (pCells 2 t17).bind fun t20 =>
          (pCells 2 t18).bind fun t21 =>
          (pWant t19 true).bind fun t22 =>
          (pWant t19 true).bind fun t23 =>
          (pWant t19 true).bind fun t24 =>
          (pG t19 true ((G 27 [A.agg [cGet t0 0, cGet t0 1, cGet t0 2], A.agg [cGet t20 0, cGet t20 1], A.agg [cGet t21 0, cGet t21 1]]).bind (fin false))).bind fun t25 =>
          (pPick t19 t25 (vb false)).bind fun t26 =>
          some ((t26, [])))))) :=
  (G_eq rfl Tryz.func27 rfl rfl).trans (by kernel_rfl)
theorem g28 (a0 a1 a2 : A) : G 28 [a0, a1, a2] =
  (pLoadN 3 a0).bind fun t0 =>
  (pLoadN 2 a1).bind fun t1 =>
  (pLoadN 2 a2).bind fun t2 =>
  ((G 27 [t0, t1, t2]).bind (fin false)).bind fun t3 =>
  some ((t3, [])) :=
  (G_eq rfl Tryz.func28 rfl rfl).trans (by kernel_rfl)
theorem g29 (a0 : A) : G 29 [a0] =
  (pCells 3 a0).bind fun t0 =>
  (pLenL (cGet t0 0)).bind fun t1 =>
  ((G 61 [t1, vi 1, vi 12]).bind (fin false)).bind fun t2 =>
  (pUn .not t2).bind fun t3 =>
  (pWant t3 false).bind fun t4 =>
  (pG t3 false (some (cGet t0 1))).bind fun t5 =>
  (pG t3 false (pLenL t5)).bind fun t6 =>
  (pWant t3 false).bind fun t7 =>
  (pG t3 false (some (cGet t0 0))).bind fun t8 =>
  (pG t3 false (pLenL t8)).bind fun t9 =>
  (pG t3 false (pBin .neq false t6 t9)).bind fun t10 =>
  (pPick t3 (vb true) t10).bind fun t11 =>
  (pWant t11 false).bind fun t12 =>
  (pG t11 false (some (cGet t0 2))).bind fun t13 =>
  (pG t11 false ((G 61 [t13, vi 1, vi 100]).bind (fin false))).bind fun t14 =>
  (pG t11 false (pUn .not t14)).bind fun t15 =>
  (pPick t11 (vb true) t15).bind fun t16 =>
  (pBool t16).bind fun t17 =>
  brn t17 (
    some ((vb false, []))) (
    L29_0 (vi 0) (cGet t0 0) (cGet t0 1) (cGet t0 2)) :=
  (G_eq rfl Tryz.func29 rfl rfl).trans (by kernel_rfl)
theorem l29_0 (x0 x1 x2 x3 : A) : L29_0 x0 x1 x2 x3 =
  (pLenL x1).bind fun t18 =>
  (pBin .lss false x0 t18).bind fun t19 =>
  (pBool t19).bind fun t20 =>
  brn t20 (
    (pIndexAddr 1 x1 x0).bind fun t21 =>
    (pLoadP t21).bind fun t22 =>
    ((G 62 [t22]).bind (fin false)).bind fun t23 =>
    (pUn .not t23).bind fun t24 =>
    (pWant t24 false).bind fun t25 =>
    (pG t24 false (some x1)).bind fun t26 =>
    (pG t24 false (some x0)).bind fun t27 =>
    (pG t24 false (pSlice 1 t26 none (some t27))).bind fun t28 =>
    (pWant t24 false).bind fun t29 =>
    (pG t24 false (some x1)).bind fun t30 =>
    (pG t24 false (some x0)).bind fun t31 =>
    (pG t24 false (pIndexAddr 1 t30 t31)).bind fun t32 =>
    (pG t24 false (pLoadP t32)).bind fun t33 =>
    (pG t24 false ((G 63 [t28, t33]).bind (fin false))).bind fun t34 =>
    (pPick t24 (vb true) t34).bind fun t35 =>
    (pWant t35 false).bind fun t36 =>
    (pG t35 false (some x2)).bind fun t37 =>
    (pG t35 false (some x0)).bind fun t38 =>
    (pG t35 false (pIndexAddr 1 t37 t38)).bind fun t39 =>
    (pG t35 false (pLoadP t39)).bind fun t40 =>
    (pWant t35 false).bind fun t41 =>
    (pG t35 false (some x3)).bind fun t42 =>
    (pG t35 false ((G 61 [t40, t42, vi 100]).bind (fin false))).bind fun t43 =>
    (pG t35 false (pUn .not t43)).bind fun t44 =>
    (pPick t35 (vb true) t44).bind fun t45 =>
    (pBool t45).bind fun t46 =>
    brn t46 (
      some ((vb false, []))) (
      (pBin .add false x0 (vi 1)).bind fun t47 =>
      L29_0 t47 x1 x2 x3)) (
    some ((vb true, []))) :=
  (H_eq Tryz.func29 rfl).trans (by kernel_rfl)
theorem g30 (a0 a1 : A) : G 30 [a0, a1] =
  (pCells 3 a0).bind fun t0 =>
  (pCells 2 a1).bind fun t1 =>
  ((G 44 [A.agg [cGet t1 0, cGet t1 1]]).bind (fin false)).bind fun t2 =>
  (pWant t2 true).bind fun t3 =>
  (pWant t2 true).bind fun t4 =>
  (pG t2 true ((G 64 [A.agg [cGet t0 0, cGet t0 1, cGet t0 2], A.agg [cGet t1 0, cGet t1 1]]).bind (fin false))).bind fun t5 =>
  (pPick t2 t5 (vb false)).bind fun t6 =>
  some ((t6, [])) :=
  (G_eq rfl Tryz.func30 rfl rfl).trans (by kernel_rfl)
theorem g31 (a0 a1 a2 : A) : G 31 [a0, a1, a2] =
  (pBool a0).bind fun t0 =>
  brn t0 (
    some ((vi 1, []))) (
    (pBool a1).bind fun t1 =>
    brn t1 (
      some ((vi 2, []))) (
      (pBool a2).bind fun t2 =>
      brn t2 (
        some ((vi 3, []))) (
        some ((vi 0, []))))) :=
  (G_eq rfl Tryz.func31 rfl rfl).trans (by kernel_rfl)
theorem g32 (a0 a1 : A) : G 32 [a0, a1] =
  (pCells 2 a0).bind fun t0 =>
  (pCells 2 a1).bind fun t1 =>
  (pBin .neq false (cGet t0 0) (cGet t1 0)).bind fun t2 =>
  (pWant t2 false).bind fun t3 =>
  (pG t2 false (some (cGet t0 1))).bind fun t4 =>
  (pG t2 false (pLenL t4)).bind fun t5 =>
  (pWant t2 false).bind fun t6 =>
  (pG t2 false (some (cGet t1 1))).bind fun t7 =>
  (pG t2 false (pLenL t7)).bind fun t8 =>
  (pG t2 false (pBin .neq false t5 t8)).bind fun t9 =>
  (pPick t2 (vb true) t9).bind fun t10 =>
  (pBool t10).bind fun t11 =>
  brn t11 (
    some ((vb false, []))) (
    L32_0 (vi 0) (cGet t0 0) (cGet t0 1) (cGet t1 0) (cGet t1 1)) :=
  (G_eq rfl Tryz.func32 rfl rfl).trans (by kernel_rfl)
theorem l32_0 (x0 x1 x2 x3 x4 : A) : L32_0 x0 x1 x2 x3 x4 =
  (pLenL x2).bind fun t12 =>
  (pBin .lss false x0 t12).bind fun t13 =>
  (pBool t13).bind fun t14 =>
  brn t14 (
    (pIndexAddr 2 x2 x0).bind fun t15 =>
    (pLoadN 2 t15).bind fun t16 =>
    (pIndexAddr 2 x4 x0).bind fun t17 =>
    (pLoadN 2 t17).bind fun t18 =>
    ((G 32 [t16, t18]).bind (fin false)).bind fun t19 =>
    (pUn .not t19).bind fun t20 =>
    (pBool t20).bind fun t21 =>
    brn t21 (
      some ((vb false, []))) (
      (pBin .add false x0 (vi 1)).bind fun t22 =>
      L32_0 t22 x1 x2 x3 x4)) (
    some ((vb true, []))) :=
  (H_eq Tryz.func32 rfl).trans (by kernel_rfl)
theorem g33 (a0 a1 a2 : A) : G 33 [a0, a1, a2] =
  (pCells 3 a0).bind fun t0 =>
  (pCells 2 a1).bind fun t1 =>
  (pCells 2 a2).bind fun t2 =>
  ((G 65 [A.agg [cGet t1 0, cGet t1 1], A.agg [cGet t2 0, cGet t2 1]]).bind (fin false)).bind fun t3 =>
  (pUn .not t3).bind fun t4 =>
  (pBool t4).bind fun t5 =>
  brn t5 (
    some ((vb false, []))) (
    ((G 66 [A.agg [cGet t0 0, cGet t0 1, cGet t0 2], A.agg [cGet t1 0, cGet t1 1]]).bind (fin false)).bind fun t6 =>
    ((G 66 [A.agg [cGet t0 0, cGet t0 1, cGet t0 2], A.agg [cGet t2 0, cGet t2 1]]).bind (fin false)).bind fun t7 =>
    (pBin .neq false t6 t7).bind fun t8 =>
    (pBool t8).bind fun t9 =>
    brn t9 (
      (pBin .gtr false t6 t7).bind fun t10 =>
      some ((t10, []))) (
      ((G 43 [cGet t1 0]).bind (fin false)).bind fun t11 =>
      (pWant t11 false).bind fun t12 =>
      (pG t11 false (some (cGet t2 0))).bind fun t13 =>
      (pG t11 false ((G 43 [t13]).bind (fin false))).bind fun t14 =>
      (pPick t11 (vb true) t14).bind fun t15 =>
      (pBool t15).bind fun t16 =>
      brn t16 (
        some ((vb false, []))) (
        ((G 67 [A.agg [cGet t0 0, cGet t0 1, cGet t0 2], A.agg [cGet t1 0, cGet t1 1], A.agg [cGet t2 0, cGet t2 1]]).bind (fin false)).bind fun t17 =>
        (pBin .neq false t17 (vi 0)).bind fun t18 =>
        (pBool t18).bind fun t19 =>
        brn t19 (
          (pBin .gtr false t17 (vi 0)).bind fun t20 =>
          some ((t20, []))) (
          ((G 68 [A.agg [cGet t1 0, cGet t1 1], A.agg [cGet t2 0, cGet t2 1]]).bind (fin false)).bind fun t21 =>
          (pBin .geq false t21 (vi 0)).bind fun t22 =>
          (pWant t22 true).bind fun t23 =>
          (pWant t22 true).bind fun t24 =>
          (pG t22 true (some (cGet t1 1))).bind fun t25 =>
          (pG t22 true (some t21)).bind fun t26 =>
          (pG t22 true (pIndexAddr 2 t25 t26)).bind fun t27 =>
          (pG t22 true (pLoadN 2 t27)).bind fun t28 =>
          (pWant t22 true).bind fun t29 =>
          (pG t22 true (some (cGet t2 1))).bind fun t30 =>
          (pG t22 true (some t21)).bind fun t31 =>
          (pG t22 true (pIndexAddr 2 t30 t31)).bind fun t32 =>
          (pG t22 true (pLoadN 2 t32)).bind fun t33 =>
          (pG t22 true ((G 33 [A.agg [cGet t0 0, cGet t0 1, cGet t0 2], t28, t33]).bind (fin false))).bind fun t34 =>
          (pPick t22 t34 (vb false)).bind fun t35 =>
          some ((t35, [])))))) :=
  (G_eq rfl Tryz.func33 rfl rfl).trans (by kernel_rfl)
theorem c34_0 (x0 x1 x2 x3 : A) : C34_0 x0 x1 x2 x3 =
  (pBin .leq false x0 (vi 1)).bind fun t0 =>
  (pBool t0).bind fun t1 =>
  brn t1 (
    some ((A.top, [x1, x2, x3, vi 0]))) (
    (C69_0 x1 x2 x3).bind fun t2 =>
    (hD t2 0).bind fun t3 =>
    (hD t2 1).bind fun t4 =>
    (hD t2 2).bind fun t5 =>
    (hD t2 3).bind fun t6 =>
    (pBin .gtr false x0 (vi 200)).bind fun t7 =>
    (pBool t7).bind fun t8 =>
    brn t8 (
      (pBin .mul false t6 (vi 256)).bind fun t9 =>
      (C69_0 t3 t4 t5).bind fun t10 =>
      (hD t10 0).bind fun t11 =>
      (hD t10 1).bind fun t12 =>
      (hD t10 2).bind fun t13 =>
      (hD t10 3).bind fun t14 =>
      (pBin .add false t9 t14).bind fun t15 =>
      (pBin .rem false t15 x0).bind fun t16 =>
      some ((A.top, [t11, t12, t13, t16]))) (
      (pBin .rem false t6 x0).bind fun t17 =>
      some ((A.top, [t3, t4, t5, t17])))) :=
  (V_eq rfl Tryz.func34 rfl rfl).trans (by kernel_rfl)
theorem c35_0 (x0 x1 x2 : A) (r0 : List (List A)) : C35_0 x0 x1 x2 r0 =
  (C34_0 (rLen r0) x0 x1 x2).bind fun t0 =>
  (hD t0 0).bind fun t1 =>
  (hD t0 1).bind fun t2 =>
  (hD t0 2).bind fun t3 =>
  (hD t0 3).bind fun t4 =>
  (pIx (rLenN r0) t4).bind fun t5 =>
  (pRowP r0 t5 0).bind fun t6 =>
  some ((A.top, [t1, t2, t3, t6])) :=
  (V_eq rfl Tryz.func35 rfl rfl).trans (by kernel_rfl)
theorem c36_0 (x0 x1 x2 : A) (r0 : List (List A)) : C36_0 x0 x1 x2 r0 =
  (C34_0 (rLen r0) x0 x1 x2).bind fun t0 =>
  (hD t0 0).bind fun t1 =>
  (hD t0 1).bind fun t2 =>
  (hD t0 2).bind fun t3 =>
  (hD t0 3).bind fun t4 =>
  (pIx (rLenN r0) t4).bind fun t5 =>
  (pRowP r0 t5 0).bind fun t6 =>
  some ((A.top, [t1, t2, t3, t6])) :=
  (V_eq rfl Tryz.func36 rfl rfl).trans (by kernel_rfl)
theorem c37_0 (x0 x1 x2 : A) : C37_0 x0 x1 x2 =
  (C34_0 (vi 3) x0 x1 x2).bind fun t0 =>
  (hD t0 0).bind fun t1 =>
  (hD t0 1).bind fun t2 =>
  (hD t0 2).bind fun t3 =>
  (hD t0 3).bind fun t4 =>
  (pBin .add false (vi 1) t4).bind fun t5 =>
  (C16_0 t5 t1 t2 t3).bind fun t6 =>
  (hD t6 0).bind fun t7 =>
  (hD t6 1).bind fun t8 =>
  (hD t6 2).bind fun t9 =>
  (hD t6 3).bind fun t10 =>
  (hR 2 t6 4).bind fun t11 =>
  brn (okA t10) (
    some ((A.top, [t7, t8, t9, t10, A.sl 2 t11]))) (
    none) :=
  (V_eq rfl Tryz.func37 rfl rfl).trans (by kernel_rfl)
theorem g38 (a0 : A) : G 38 [a0] =
  (pCells 2 a0).bind fun t0 =>
  brn (okA (cGet t0 0)) (
    brn (okA (cGet t0 0)) (
      L38_0 (vi 0) (cGet t0 0) (cGet t0 1) (sv []) (cGet t0 0) [] []) (
      none)) (
    none) :=
  (G_eq rfl Tryz.func38 rfl rfl).trans (by kernel_rfl)
theorem l38_0 (x0 x1 x2 x3 x4 : A) (r0 r1 : List (List A)) : L38_0 x0 x1 x2 x3 x4 r0 r1 =
  (pLenL x2).bind fun t1 =>
  (pBin .lss false x0 t1).bind fun t2 =>
  (pBool t2).bind fun t3 =>
  brn t3 (
    (pIndexAddr 2 x2 x0).bind fun t4 =>
    (pLoadN 2 t4).bind fun t5 =>
    (G 38 [t5]).bind fun t6 =>
    (fin false t6).bind fun t7 =>
    (pCells 2 t7).bind fun t8 =>
    brn (pFit ((rLenN r1) + (rLenN [[cGet t8 0, cGet t8 1]])) 40) (
      (pBin .add false x0 (vi 1)).bind fun t9 =>
      L38_0 t9 x1 x2 x3 x4 r0 (rApp r1 [[cGet t8 0, cGet t8 1]])) (
      none)) (
    brn (okA x4) (
      some ((A.agg [x4, A.sl 2 r1], []))) (
      none)) :=
  (H_eq Tryz.func38 rfl).trans (by kernel_rfl)
theorem c39_0 (x0 x1 x2 : A) : C39_0 x0 x1 x2 =
  (C37_0 x0 x1 x2).bind fun t0 =>
  (hD t0 0).bind fun t1 =>
  (hD t0 1).bind fun t2 =>
  (hD t0 2).bind fun t3 =>
  (hD t0 3).bind fun t4 =>
  (hR 2 t0 4).bind fun t5 =>
  brn (okA t4) (
    (C34_0 (vi 24) t1 t2 t3).bind fun t6 =>
    (hD t6 0).bind fun t7 =>
    (hD t6 1).bind fun t8 =>
    (hD t6 2).bind fun t9 =>
    (hD t6 3).bind fun t10 =>
    (pBin .eql false t10 (vi 0)).bind fun t11 =>
    (pBool t11).bind fun t12 =>
    brn t12 (
      (C36_0 t7 t8 t9 [[sv []], [sv [116, 114, 117, 101]], [sv [116, 114, 117, 116, 104]], [sv [105, 102]], [sv [88, 121, 122, 57]], [sv [88, 121, 122, 57, 57]], [sv [120, 65]], [sv [97, 95, 98]], [sv [97, 98, 99, 100, 101, 102]], [sv [97, 98, 99, 100, 101, 102, 103]], [sv [95, 97]], [sv [57]], [sv [88, 95]], [sv [61]]]).bind fun t13 =>
      (hD t13 0).bind fun t14 =>
      (hD t13 1).bind fun t15 =>
      (hD t13 2).bind fun t16 =>
      (hD t13 3).bind fun t17 =>
      brn (okA t17) (
        brn (okA t17) (
          some ((A.top, [t14, t15, t16, A.agg [t17, A.sl 2 t5]]))) (
          none)) (
        none)) (
      (pBin .eql false t10 (vi 1)).bind fun t18 =>
      (pBool t18).bind fun t19 =>
      brn t19 (
        (C34_0 (vi 3) t7 t8 t9).bind fun t20 =>
        (hD t20 0).bind fun t21 =>
        (hD t20 1).bind fun t22 =>
        (hD t20 2).bind fun t23 =>
        (hD t20 3).bind fun t24 =>
        (pBin .add false (vi 7) t24).bind fun t25 =>
        (C17_0 t25 t21 t22 t23).bind fun t26 =>
        (hD t26 0).bind fun t27 =>
        (hD t26 1).bind fun t28 =>
        (hD t26 2).bind fun t29 =>
        (hD t26 3).bind fun t30 =>
        (hR 2 t26 4).bind fun t31 =>
        brn (okA t30) (
          some ((A.top, [t27, t28, t29, A.agg [t30, A.sl 2 t31]]))) (
          none)) (
        (pBin .eql false t10 (vi 2)).bind fun t32 =>
        (pBool t32).bind fun t33 =>
        brn t33 (
          (C70_0 t7 t8 t9).bind fun t34 =>
          (hD t34 0).bind fun t35 =>
          (hD t34 1).bind fun t36 =>
          (hD t34 2).bind fun t37 =>
          (hD t34 3).bind fun t38 =>
          (pCells 2 t38).bind fun t39 =>
          some ((A.top, [t35, t36, t37, A.agg [cGet t39 0, cGet t39 1]]))) (
          (pBin .eql false t10 (vi 3)).bind fun t40 =>
          (pBool t40).bind fun t41 =>
          brn t41 (
            (C37_0 t7 t8 t9).bind fun t42 =>
            (hD t42 0).bind fun t43 =>
            (hD t42 1).bind fun t44 =>
            (hD t42 2).bind fun t45 =>
            (hD t42 3).bind fun t46 =>
            (hR 2 t42 4).bind fun t47 =>
            (C37_0 t43 t44 t45).bind fun t48 =>
            (hD t48 0).bind fun t49 =>
            (hD t48 1).bind fun t50 =>
            (hD t48 2).bind fun t51 =>
            (hD t48 3).bind fun t52 =>
            (hR 2 t48 4).bind fun t53 =>
            (C37_0 t49 t50 t51).bind fun t54 =>
            (hD t54 0).bind fun t55 =>
            (hD t54 1).bind fun t56 =>
            (hD t54 2).bind fun t57 =>
            (hD t54 3).bind fun t58 =>
            (hR 2 t54 4).bind fun t59 =>
            brn (okA t46) (
              brn (okA t52) (
                brn (okA t58) (
                  brn (pFit ((rLenN t5) + (rLenN [[t46, A.sl 2 t47], [t52, A.sl 2 t53], [t58, A.sl 2 t59]])) 40) (
                    brn (okA t4) (
                      some ((A.top, [t55, t56, t57, A.agg [t4, A.sl 2 (rApp t5 [[t46, A.sl 2 t47], [t52, A.sl 2 t53], [t58, A.sl 2 t59]])]]))) (
                      none)) (
                    none)) (
                  none)) (
                none)) (
              none)) (
            (pBin .eql false t10 (vi 4)).bind fun t60 =>
            (pBool t60).bind fun t61 =>
            brn t61 (
              (pBin .gtr false (rLen t5) (vi 0)).bind fun t62 =>
              (pBool t62).bind fun t63 =>
              brn t63 (
                (C36_0 t7 t8 t9 [[sv [61]], [sv []], [sv [81, 49]], [sv [98, 50]]]).bind fun t64 =>
                (hD t64 0).bind fun t65 =>
                (hD t64 1).bind fun t66 =>
                (hD t64 2).bind fun t67 =>
                (hD t64 3).bind fun t68 =>
                (pIx (rLenN t5) (vi 0)).bind fun t69 =>
                (pRowP t5 t69 1).bind fun t70 =>
                (buildA (fun f =>
  match (Go.Proofs.YtbikhinddomhpaaGreat.K.at 39).D 30 with
  | some i =>
    match i.kind with
    | Go.Proofs.YtbikhinddomhpaaGreat.Abs.TK.struct fs =>
      match fs[f]? with
      | some (off, t) =>
        match (Go.Proofs.YtbikhinddomhpaaGreat.K.at 39).D t with
        | some j => if j.kind.known = true then some (off, j) else none
        | none => none
      | none => none
    | x => none
  | none => none) [sv [], A.sl 2 []] [(0, t68), (1, t70)]).bind fun t71 =>
                (pIx (rLenN t5) (vi 0)).bind fun t72 =>
                (pCells 2 t71).bind fun t73 =>
                (rGet t5 t72).bind fun t74 =>
                brn (okA t4) (
                  some ((A.top, [t65, t66, t67, A.agg [t4, A.sl 2 (rSet t5 t72 (cOver t74 0 [cGet t73 0, cGet t73 1]))]]))) (
                  none)) (
                brn (okA t4) (
                  some ((A.top, [t7, t8, t9, A.agg [t4, A.sl 2 t5]]))) (
                  none))) (
              brn (okA t4) (
                some ((A.top, [t7, t8, t9, A.agg [t4, A.sl 2 t5]]))) (
                none))))))) (
    none) :=
  (V_eq rfl Tryz.func39 rfl rfl).trans (by kernel_rfl)
theorem c40_0 (x0 x1 x2 : A) : C40_0 x0 x1 x2 =
  L40c0_0 (rLen [[sv [85]], [sv [88]], [sv [89]], [sv [90]]]) (vi 0) x0 x1 x2 [[sv [85]], [sv [88]], [sv [89]], [sv [90]]] [] [] :=
  (V_eq rfl Tryz.func40 rfl rfl).trans (by kernel_rfl)
theorem l40c0_0 (x0 x1 x2 x3 x4 : A) (r0 r1 r2 : List (List A)) : L40c0_0 x0 x1 x2 x3 x4 r0 r1 r2 =
  (pBin .lss false x1 x0).bind fun t0 =>
  (pBool t0).bind fun t1 =>
  brn t1 (
    (pIx (rLenN r0) x1).bind fun t2 =>
    (pRowP r0 t2 0).bind fun t3 =>
    (C15_0 (vi 2) x2 x3 x4).bind fun t4 =>
    (hD t4 0).bind fun t5 =>
    (hD t4 1).bind fun t6 =>
    (hD t4 2).bind fun t7 =>
    (hD t4 3).bind fun t8 =>
    (pBool t8).bind fun t9 =>
    brn t9 (
      (C37_0 t5 t6 t7).bind fun t10 =>
      (hD t10 0).bind fun t11 =>
      (hD t10 1).bind fun t12 =>
      (hD t10 2).bind fun t13 =>
      (hD t10 3).bind fun t14 =>
      (hR 2 t10 4).bind fun t15 =>
      (C71_0 t3 t14 r2 t15).bind fun t16 =>
      (hR 3 t16 0).bind fun t17 =>
      (pBin .add false x1 (vi 1)).bind fun t18 =>
      L40c0_0 x0 t18 t11 t12 t13 r0 r1 t17) (
      (pBin .add false x1 (vi 1)).bind fun t19 =>
      L40c0_0 x0 t19 t5 t6 t7 r0 r1 r2)) (
    some ((A.top, [x2, x3, x4, A.sl 3 r2]))) :=
  (H_eq Tryz.func40 rfl).trans (by kernel_rfl)
theorem g41 (a0 : A) : G 41 [a0] =
  (pBin .lss false a0 (vi 0)).bind fun t0 =>
  (pBool t0).bind fun t1 =>
  brn t1 (
    (pUn .neg a0).bind fun t2 =>
    ((G 41 [t2]).bind (fin false)).bind fun t3 =>
    (pBin .add false (sv [45]) t3).bind fun t4 =>
    some ((t4, []))) (
    (pBin .lss false a0 (vi 10)).bind fun t5 =>
    (pBool t5).bind fun t6 =>
    brn t6 (
      (pBin .add false a0 (vi 1)).bind fun t7 =>
      (pSliceS (sv [48, 49, 50, 51, 52, 53, 54, 55, 56, 57]) (some a0) (some t7)).bind fun t8 =>
      some ((t8, []))) (
      (pBin .quo false a0 (vi 10)).bind fun t9 =>
      ((G 41 [t9]).bind (fin false)).bind fun t10 =>
      (pBin .rem false a0 (vi 10)).bind fun t11 =>
      (pBin .rem false a0 (vi 10)).bind fun t12 =>
      (pBin .add false t12 (vi 1)).bind fun t13 =>
      (pSliceS (sv [48, 49, 50, 51, 52, 53, 54, 55, 56, 57]) (some t11) (some t13)).bind fun t14 =>
      (pBin .add false t10 t14).bind fun t15 =>
      some ((t15, [])))) :=
  (G_eq rfl Tryz.func41 rfl rfl).trans (by kernel_rfl)
theorem c42_0 (x0 x1 x2 : A) : C42_0 x0 x1 x2 =
  (C34_0 (vi 8) x0 x1 x2).bind fun t0 =>
  (hD t0 0).bind fun t1 =>
  (hD t0 1).bind fun t2 =>
  (hD t0 2).bind fun t3 =>
  (hD t0 3).bind fun t4 =>
  (pBin .eql false t4 (vi 0)).bind fun t5 =>
  (pBool t5).bind fun t6 =>
  brn t6 (
    (pBool t5).bind fun t7 =>
    brn t7 (
      (C37_0 t1 t2 t3).bind fun t8 =>
      (hD t8 0).bind fun t9 =>
      (hD t8 1).bind fun t10 =>
      (hD t8 2).bind fun t11 =>
      (hD t8 3).bind fun t12 =>
      (hR 2 t8 4).bind fun t13 =>
      (C37_0 t9 t10 t11).bind fun t14 =>
      (hD t14 0).bind fun t15 =>
      (hD t14 1).bind fun t16 =>
      (hD t14 2).bind fun t17 =>
      (hD t14 3).bind fun t18 =>
      (hR 2 t14 4).bind fun t19 =>
      brn (okA t12) (
        brn (okA t18) (
          some ((A.top, [t15, t16, t17, sv [61], A.sl 2 [[t12, A.sl 2 t13], [t18, A.sl 2 t19]]]))) (
          none)) (
        none)) (
      (pBin .eql false t4 (vi 2)).bind fun t20 =>
      (pBool t20).bind fun t21 =>
      brn t21 (
        some ((A.top, [t1, t2, t3, sv [114], A.sl 2 []]))) (
        (pBin .eql false t4 (vi 3)).bind fun t22 =>
        (pBool t22).bind fun t23 =>
        brn t23 (
          (pBool t22).bind fun t24 =>
          brn t24 (
            (C16_0 (vi 2) t1 t2 t3).bind fun t25 =>
            (hD t25 0).bind fun t26 =>
            (hD t25 1).bind fun t27 =>
            (hD t25 2).bind fun t28 =>
            (hD t25 3).bind fun t29 =>
            (hR 2 t25 4).bind fun t30 =>
            (C16_0 (vi 2) t26 t27 t28).bind fun t31 =>
            (hD t31 0).bind fun t32 =>
            (hD t31 1).bind fun t33 =>
            (hD t31 2).bind fun t34 =>
            (hD t31 3).bind fun t35 =>
            (hR 2 t31 4).bind fun t36 =>
            brn (okA t29) (
              brn (okA t35) (
                some ((A.top, [t32, t33, t34, sv [113], A.sl 2 [[t29, A.sl 2 t30], [t35, A.sl 2 t36]]]))) (
                none)) (
              none)) (
            (C16_0 (vi 2) t1 t2 t3).bind fun t37 =>
            (hD t37 0).bind fun t38 =>
            (hD t37 1).bind fun t39 =>
            (hD t37 2).bind fun t40 =>
            (hD t37 3).bind fun t41 =>
            (hR 2 t37 4).bind fun t42 =>
            brn (okA t41) (
              some ((A.top, [t38, t39, t40, sv [112], A.sl 2 [[t41, A.sl 2 t42]]]))) (
              none))) (
          (pBin .eql false t4 (vi 4)).bind fun t43 =>
          (pBool t43).bind fun t44 =>
          brn t44 (
            (C16_0 (vi 2) t1 t2 t3).bind fun t45 =>
            (hD t45 0).bind fun t46 =>
            (hD t45 1).bind fun t47 =>
            (hD t45 2).bind fun t48 =>
            (hD t45 3).bind fun t49 =>
            (hR 2 t45 4).bind fun t50 =>
            (C16_0 (vi 2) t46 t47 t48).bind fun t51 =>
            (hD t51 0).bind fun t52 =>
            (hD t51 1).bind fun t53 =>
            (hD t51 2).bind fun t54 =>
            (hD t51 3).bind fun t55 =>
            (hR 2 t51 4).bind fun t56 =>
            brn (okA t49) (
              brn (okA t55) (
                some ((A.top, [t52, t53, t54, sv [113], A.sl 2 [[t49, A.sl 2 t50], [t55, A.sl 2 t56]]]))) (
                none)) (
              none)) (
            (C16_0 (vi 2) t1 t2 t3).bind fun t57 =>
            (hD t57 0).bind fun t58 =>
            (hD t57 1).bind fun t59 =>
            (hD t57 2).bind fun t60 =>
            (hD t57 3).bind fun t61 =>
            (hR 2 t57 4).bind fun t62 =>
            brn (okA t61) (
              some ((A.top, [t58, t59, t60, sv [112], A.sl 2 [[t61, A.sl 2 t62]]]))) (
              none)))))) (
    (pBin .eql false t4 (vi 1)).bind fun t63 =>
    (pBool t63).bind fun t64 =>
    brn t64 (
      (C37_0 t1 t2 t3).bind fun t65 =>
      (hD t65 0).bind fun t66 =>
      (hD t65 1).bind fun t67 =>
      (hD t65 2).bind fun t68 =>
      (hD t65 3).bind fun t69 =>
      (hR 2 t65 4).bind fun t70 =>
      (C37_0 t66 t67 t68).bind fun t71 =>
      (hD t71 0).bind fun t72 =>
      (hD t71 1).bind fun t73 =>
      (hD t71 2).bind fun t74 =>
      (hD t71 3).bind fun t75 =>
      (hR 2 t71 4).bind fun t76 =>
      brn (okA t69) (
        brn (okA t75) (
          some ((A.top, [t72, t73, t74, sv [61], A.sl 2 [[t69, A.sl 2 t70], [t75, A.sl 2 t76]]]))) (
          none)) (
        none)) (
      (pBin .eql false t4 (vi 2)).bind fun t77 =>
      (pBool t77).bind fun t78 =>
      brn t78 (
        some ((A.top, [t1, t2, t3, sv [114], A.sl 2 []]))) (
        (pBin .eql false t4 (vi 3)).bind fun t79 =>
        (pBool t79).bind fun t80 =>
        brn t80 (
          (pBool t79).bind fun t81 =>
          brn t81 (
            (C16_0 (vi 2) t1 t2 t3).bind fun t82 =>
            (hD t82 0).bind fun t83 =>
            (hD t82 1).bind fun t84 =>
            (hD t82 2).bind fun t85 =>
            (hD t82 3).bind fun t86 =>
            (hR 2 t82 4).bind fun t87 =>
            (C16_0 (vi 2) t83 t84 t85).bind fun t88 =>
            (hD t88 0).bind fun t89 =>
            (hD t88 1).bind fun t90 =>
            (hD t88 2).bind fun t91 =>
            (hD t88 3).bind fun t92 =>
            (hR 2 t88 4).bind fun t93 =>
            brn (okA t86) (
              brn (okA t92) (
                some ((A.top, [t89, t90, t91, sv [113], A.sl 2 [[t86, A.sl 2 t87], [t92, A.sl 2 t93]]]))) (
                none)) (
              none)) (
            (C16_0 (vi 2) t1 t2 t3).bind fun t94 =>
            (hD t94 0).bind fun t95 =>
            (hD t94 1).bind fun t96 =>
            (hD t94 2).bind fun t97 =>
            (hD t94 3).bind fun t98 =>
            (hR 2 t94 4).bind fun t99 =>
            brn (okA t98) (
              some ((A.top, [t95, t96, t97, sv [112], A.sl 2 [[t98, A.sl 2 t99]]]))) (
              none))) (
          (pBin .eql false t4 (vi 4)).bind fun t100 =>
          (pBool t100).bind fun t101 =>
          brn t101 (
            (C16_0 (vi 2) t1 t2 t3).bind fun t102 =>
            (hD t102 0).bind fun t103 =>
            (hD t102 1).bind fun t104 =>
            (hD t102 2).bind fun t105 =>
            (hD t102 3).bind fun t106 =>
            (hR 2 t102 4).bind fun t107 =>
            (C16_0 (vi 2) t103 t104 t105).bind fun t108 =>
            (hD t108 0).bind fun t109 =>
            (hD t108 1).bind fun t110 =>
            (hD t108 2).bind fun t111 =>
            (hD t108 3).bind fun t112 =>
            (hR 2 t108 4).bind fun t113 =>
            brn (okA t106) (
              brn (okA t112) (
                some ((A.top, [t109, t110, t111, sv [113], A.sl 2 [[t106, A.sl 2 t107], [t112, A.sl 2 t113]]]))) (
                none)) (
              none)) (
            (C16_0 (vi 2) t1 t2 t3).bind fun t114 =>
            (hD t114 0).bind fun t115 =>
            (hD t114 1).bind fun t116 =>
            (hD t114 2).bind fun t117 =>
            (hD t114 3).bind fun t118 =>
            (hR 2 t114 4).bind fun t119 =>
            brn (okA t118) (
              some ((A.top, [t115, t116, t117, sv [112], A.sl 2 [[t118, A.sl 2 t119]]]))) (
              none)))))) :=
  (V_eq rfl Tryz.func42 rfl rfl).trans (by kernel_rfl)
theorem g43 (a0 : A) : G 43 [a0] =
  (pLenS a0).bind fun t0 =>
  ((G 61 [t0, vi 1, vi 4]).bind (fin false)).bind fun t1 =>
  (pUn .not t1).bind fun t2 =>
  (pG t2 false (some a0)).bind fun t3 =>
  (pG t2 false (pIndexS t3 (vi 0))).bind fun t4 =>
  (pG t2 false (pBin .lss false t4 (vy 65))).bind fun t5 =>
  (pPick t2 (vb true) t5).bind fun t6 =>
  (pG t6 false (some a0)).bind fun t7 =>
  (pG t6 false (pIndexS t7 (vi 0))).bind fun t8 =>
  (pG t6 false (pBin .gtr false t8 (vy 90))).bind fun t9 =>
  (pPick t6 (vb true) t9).bind fun t10 =>
  (pBool t10).bind fun t11 =>
  brn t11 (
    some ((vb false, []))) (
    L43_0 a0 (vi 1)) :=
  (G_eq rfl Tryz.func43 rfl rfl).trans (by kernel_rfl)
theorem l43_0 (x0 x1 : A) : L43_0 x0 x1 =
  (pLenS x0).bind fun t12 =>
  (pBin .lss false x1 t12).bind fun t13 =>
  (pBool t13).bind fun t14 =>
  brn t14 (
    (pIndexS x0 x1).bind fun t15 =>
    ((G 72 [t15]).bind (fin false)).bind fun t16 =>
    (pUn .not t16).bind fun t17 =>
    (pBool t17).bind fun t18 =>
    brn t18 (
      some ((vb false, []))) (
      (pBin .add false x1 (vi 1)).bind fun t19 =>
      L43_0 x0 t19)) (
    some ((vb true, []))) :=
  (H_eq Tryz.func43 rfl).trans (by kernel_rfl)
theorem g44 (a0 : A) : G 44 [a0] =
  (pCells 2 a0).bind fun t0 =>
  ((G 73 [A.agg [cGet t0 0, cGet t0 1]]).bind (fin false)).bind fun t1 =>
  (pWant t1 true).bind fun t2 =>
  (pG t1 true ((G 74 [A.agg [cGet t0 0, cGet t0 1]]).bind (fin false))).bind fun t3 =>
  (pPick t1 t3 (vb false)).bind fun t4 =>
  some ((t4, [])) :=
  (G_eq rfl Tryz.func44 rfl rfl).trans (by kernel_rfl)
theorem g45 (a0 : A) : G 45 [a0] =
  (pCells 2 a0).bind fun t0 =>
  (pBin .eql false (cGet t0 0) (sv [61])).bind fun t1 =>
  (pBool t1).bind fun t2 =>
  brn t2 (
    (pLenL (cGet t0 1)).bind fun t3 =>
    (pBin .eql false t3 (vi 2)).bind fun t4 =>
    (pWant t4 true).bind fun t5 =>
    (pG t4 true ((G 73 [A.agg [cGet t0 0, cGet t0 1]]).bind (fin false))).bind fun t6 =>
    (pPick t4 t6 (vb false)).bind fun t7 =>
    (pWant t7 true).bind fun t8 =>
    (pG t7 true (some (cGet t0 1))).bind fun t9 =>
    (pG t7 true (pIndexAddr 2 t9 (vi 0))).bind fun t10 =>
    (pG t7 true (pLoadN 2 t10)).bind fun t11 =>
    (pG t7 true ((G 74 [t11]).bind (fin false))).bind fun t12 =>
    (pPick t7 t12 (vb false)).bind fun t13 =>
    (pWant t13 true).bind fun t14 =>
    (pG t13 true (some (cGet t0 1))).bind fun t15 =>
    (pG t13 true (pIndexAddr 2 t15 (vi 1))).bind fun t16 =>
    (pG t13 true (pLoadN 2 t16)).bind fun t17 =>
    (pG t13 true ((G 74 [t17]).bind (fin false))).bind fun t18 =>
    (pPick t13 t18 (vb false)).bind fun t19 =>
    some ((t19, []))) (
    ((G 62 [cGet t0 0]).bind (fin false)).bind fun t20 =>
    (pWant t20 true).bind fun t21 =>
    (pG t20 true ((G 44 [A.agg [cGet t0 0, cGet t0 1]]).bind (fin false))).bind fun t22 =>
    (pPick t20 t22 (vb false)).bind fun t23 =>
    some ((t23, []))) :=
  (G_eq rfl Tryz.func45 rfl rfl).trans (by kernel_rfl)
theorem g46 (a0 a1 : A) : G 46 [a0, a1] =
  (pCells 1 a0).bind fun t0 =>
  L46_0 a1 (vi 0) (cGet t0 0) :=
  (G_eq rfl Tryz.func46 rfl rfl).trans (by kernel_rfl)
theorem l46_0 (x0 x1 x2 : A) : L46_0 x0 x1 x2 =
  (pLenL x2).bind fun t1 =>
  (pBin .lss false x1 t1).bind fun t2 =>
  (pBool t2).bind fun t3 =>
  brn t3 (
    (pIndexAddr 3 x2 x1).bind fun t4 =>
    (pAdd t4 0).bind fun t5 =>
    (pLoadP t5).bind fun t6 =>
    (pBin .eql false t6 x0).bind fun t7 =>
    (pBool t7).bind fun t8 =>
    brn t8 (
      some ((x1, []))) (
      (pBin .add false x1 (vi 1)).bind fun t9 =>
      L46_0 x0 t9 x2)) (
    some ((vi (-1), []))) :=
  (H_eq Tryz.func46 rfl).trans (by kernel_rfl)
theorem g47 (a0 : A) : G 47 [a0] =
  (pCells 3 a0).bind fun t0 =>
  (pLenL (cGet t0 0)).bind fun t1 =>
  ((G 75 [t1, vi 1, vi 12]).bind (fin false)).bind fun t2 =>
  (pUn .not t2).bind fun t3 =>
  (pWant t3 false).bind fun t4 =>
  (pG t3 false (some (cGet t0 1))).bind fun t5 =>
  (pG t3 false (pLenL t5)).bind fun t6 =>
  (pWant t3 false).bind fun t7 =>
  (pG t3 false (some (cGet t0 0))).bind fun t8 =>
  (pG t3 false (pLenL t8)).bind fun t9 =>
  (pG t3 false (pBin .neq false t6 t9)).bind fun t10 =>
  (pPick t3 (vb true) t10).bind fun t11 =>
  (pWant t11 false).bind fun t12 =>
  (pG t11 false (some (cGet t0 2))).bind fun t13 =>
  (pG t11 false ((G 75 [t13, vi 1, vi 100]).bind (fin false))).bind fun t14 =>
  (pG t11 false (pUn .not t14)).bind fun t15 =>
  (pPick t11 (vb true) t15).bind fun t16 =>
  (pBool t16).bind fun t17 =>
  brn t17 (
    some ((vb false, []))) (
    (pLenL (cGet t0 0)).bind fun t18 =>
    L47_0 (cGet t0 0) t18 (vi 0) (cGet t0 0) (cGet t0 1) (cGet t0 2)) :=
  (G_eq rfl Tryz.func47 rfl rfl).trans (by kernel_rfl)
theorem l47_0 (x0 x1 x2 x3 x4 x5 : A) : L47_0 x0 x1 x2 x3 x4 x5 =
  (pBin .lss false x2 x1).bind fun t19 =>
  (pBool t19).bind fun t20 =>
  brn t20 (
    (pIndexAddr 1 x0 x2).bind fun t21 =>
    (pLoadP t21).bind fun t22 =>
    ((G 76 [t22]).bind (fin false)).bind fun t23 =>
    (pUn .not t23).bind fun t24 =>
    (pWant t24 false).bind fun t25 =>
    (pG t24 false (some x3)).bind fun t26 =>
    (pG t24 false (some x2)).bind fun t27 =>
    (pG t24 false (pSlice 1 t26 none (some t27))).bind fun t28 =>
    (pG t24 false (some t22)).bind fun t29 =>
    (pG t24 false ((G 77 [t28, t29]).bind (fin false))).bind fun t30 =>
    (pPick t24 (vb true) t30).bind fun t31 =>
    (pWant t31 false).bind fun t32 =>
    (pG t31 false (some x4)).bind fun t33 =>
    (pG t31 false (some x2)).bind fun t34 =>
    (pG t31 false (pIndexAddr 1 t33 t34)).bind fun t35 =>
    (pG t31 false (pLoadP t35)).bind fun t36 =>
    (pWant t31 false).bind fun t37 =>
    (pG t31 false (some x5)).bind fun t38 =>
    (pG t31 false ((G 75 [t36, t38, vi 100]).bind (fin false))).bind fun t39 =>
    (pG t31 false (pUn .not t39)).bind fun t40 =>
    (pPick t31 (vb true) t40).bind fun t41 =>
    (pBool t41).bind fun t42 =>
    brn t42 (
      some ((vb false, []))) (
      (pBin .add false x2 (vi 1)).bind fun t43 =>
      L47_0 x0 x1 t43 x3 x4 x5)) (
    some ((vb true, []))) :=
  (H_eq Tryz.func47 rfl).trans (by kernel_rfl)
theorem g48 (a0 a1 : A) : G 48 [a0, a1] =
  ((G 78 [a0, a1]).bind (fin false)).bind fun t0 =>
  (pBin .geq false t0 (vi 0)).bind fun t1 =>
  some ((t1, [])) :=
  (G_eq rfl Tryz.func48 rfl rfl).trans (by kernel_rfl)
theorem g49 (a0 a1 : A) : G 49 [a0, a1] =
  (pCells 2 a0).bind fun t0 =>
  ((G 50 [A.agg [cGet t0 0, cGet t0 1]]).bind (fin false)).bind fun t1 =>
  (pUn .not t1).bind fun t2 =>
  (pG t2 false (pLoadN 3 a1)).bind fun t3 =>
  (pWant t2 false).bind fun t4 =>
  (pG t2 false ((G 51 [t3, A.agg [cGet t0 0, cGet t0 1]]).bind (fin false))).bind fun t5 =>
  (pG t2 false (pUn .not t5)).bind fun t6 =>
  (pPick t2 (vb true) t6).bind fun t7 =>
  some ((t7, [])) :=
  (G_eq rfl Tryz.func49 rfl rfl).trans (by kernel_rfl)
theorem g50 (a0 : A) : G 50 [a0] =
  (pCells 2 a0).bind fun t0 =>
  ((G 79 [A.agg [cGet t0 0, cGet t0 1]]).bind (fin false)).bind fun t1 =>
  (pWant t1 true).bind fun t2 =>
  (pG t1 true ((G 80 [A.agg [cGet t0 0, cGet t0 1]]).bind (fin false))).bind fun t3 =>
  (pPick t1 t3 (vb false)).bind fun t4 =>
  some ((t4, [])) :=
  (G_eq rfl Tryz.func50 rfl rfl).trans (by kernel_rfl)
theorem g51 (a0 a1 : A) : G 51 [a0, a1] =
  (pCells 3 a0).bind fun t0 =>
  (pCells 2 a1).bind fun t1 =>
  ((G 56 [A.agg [cGet t1 0, cGet t1 1]]).bind (fin false)).bind fun t2 =>
  (pWant t2 false).bind fun t3 =>
  (pG t2 false (some (cGet t0 0))).bind fun t4 =>
  (pWant t2 false).bind fun t5 =>
  (pG t2 false (some (cGet t1 0))).bind fun t6 =>
  (pG t2 false ((G 77 [t4, t6]).bind (fin false))).bind fun t7 =>
  (pPick t2 (vb true) t7).bind fun t8 =>
  (pWant t8 true).bind fun t9 =>
  (pG t8 true (some (cGet t1 1))).bind fun t10 =>
  (pWant t8 true).bind fun t11 =>
  (pG t8 true ((G 48 [t10, A.fn 81 [A.elt [cGet t0 0, cGet t0 1, cGet t0 2] 0]]).bind (fin true))).bind fun t12 =>
  (pG t8 true (pUn .not t12)).bind fun t13 =>
  (pPick t8 t13 (vb false)).bind fun t14 =>
  some ((t14, [])) :=
  (G_eq rfl Tryz.func51 rfl rfl).trans (by kernel_rfl)
theorem g52 (a0 a1 a2 : A) : G 52 [a0, a1, a2] =
  (pLoadN 3 a0).bind fun t0 =>
  (pLoadN 2 a1).bind fun t1 =>
  (pLoadN 2 a2).bind fun t2 =>
  ((G 53 [t0, t1, t2]).bind (fin false)).bind fun t3 =>
  some ((t3, [])) :=
  (G_eq rfl Tryz.func52 rfl rfl).trans (by kernel_rfl)
theorem g53 (a0 a1 a2 : A) : G 53 [a0, a1, a2] =
  (pCells 3 a0).bind fun t0 =>
  (pCells 2 a1).bind fun t1 =>
  (pCells 2 a2).bind fun t2 =>
  ((G 82 [A.agg [cGet t2 0, cGet t2 1]]).bind (fin false)).bind fun t3 =>
  (pLenL t3).bind fun t4 =>
  L53_0 t3 t4 (vi 0) (cGet t0 0) (cGet t0 1) (cGet t0 2) (cGet t1 0) (cGet t1 1) (cGet t2 0) (cGet t2 1) :=
  (G_eq rfl Tryz.func53 rfl rfl).trans (by kernel_rfl)
theorem l53_0 (x0 x1 x2 x3 x4 x5 x6 x7 x8 x9 : A) : L53_0 x0 x1 x2 x3 x4 x5 x6 x7 x8 x9 =
  (pBin .lss false x2 x1).bind fun t5 =>
  (pBool t5).bind fun t6 =>
  brn t6 (
    (pIndexAddr 1 x0 x2).bind fun t7 =>
    (pLoadP t7).bind fun t8 =>
    ((G 83 [A.agg [x6, x7], t8]).bind (fin false)).bind fun t9 =>
    ((G 83 [A.agg [x8, x9], t8]).bind (fin false)).bind fun t10 =>
    (pBin .lss false t9 t10).bind fun t11 =>
    (pBool t11).bind fun t12 =>
    brn t12 (
      some ((vb false, []))) (
      (pBin .add false x2 (vi 1)).bind fun t13 =>
      L53_0 x0 x1 t13 x3 x4 x5 x6 x7 x8 x9)) (
    ((G 84 [A.agg [x3, x4, x5], A.agg [x6, x7]]).bind (fin false)).bind fun t14 =>
    ((G 84 [A.agg [x3, x4, x5], A.agg [x8, x9]]).bind (fin false)).bind fun t15 =>
    (pBin .neq false t14 t15).bind fun t16 =>
    (pWant t16 false).bind fun t17 =>
    (pG t16 false ((G 56 [A.agg [x6, x7]]).bind (fin false))).bind fun t18 =>
    (pPick t16 (vb true) t18).bind fun t19 =>
    (pWant t19 false).bind fun t20 =>
    (pG t19 false ((G 56 [A.agg [x8, x9]]).bind (fin false))).bind fun t21 =>
    (pPick t19 (vb true) t21).bind fun t22 =>
    (pBool t22).bind fun t23 =>
    brn t23 (
      (pBin .gtr false t14 t15).bind fun t24 =>
      some ((t24, []))) (
      ((G 59 [A.agg [x3, x4, x5], A.agg [x8, x9], A.agg [x6, x7]]).bind (fin false)).bind fun t25 =>
      (pBool t25).bind fun t26 =>
      brn t26 (
        some ((vb true, []))) (
        ((G 60 [A.agg [x6, x7], A.agg [x8, x9]]).bind (fin false)).bind fun t27 =>
        (pTup t27 0).bind fun t28 =>
        (pTup t27 1).bind fun t29 =>
        (pTup t27 2).bind fun t30 =>
        (pCells 2 t28).bind fun t31 =>
        (pCells 2 t29).bind fun t32 =>
        (pWant t30 true).bind fun t33 =>
        (pWant t30 true).bind fun t34 =>
        (pWant t30 true).bind fun t35 =>
        (pG t30 true ((G 53 [A.agg [x3, x4, x5], A.agg [cGet t31 0, cGet t31 1], A.agg [cGet t32 0, cGet t32 1]]).bind (fin false))).bind fun t36 =>
        (pPick t30 t36 (vb false)).bind fun t37 =>
        some ((t37, []))))) :=
  (H_eq Tryz.func53 rfl).trans (by kernel_rfl)
theorem g54 (a0 a1 a2 : A) : G 54 [a0, a1, a2] =
  (pLoadN 3 a0).bind fun t0 =>
  (pLoadN 2 a1).bind fun t1 =>
  (pLoadN 2 a2).bind fun t2 =>
  ((G 53 [t0, t1, t2]).bind (fin false)).bind fun t3 =>
  some ((t3, [])) :=
  (G_eq rfl Tryz.func54 rfl rfl).trans (by kernel_rfl)
theorem g55 (a0 a1 a2 : A) : G 55 [a0, a1, a2] =
  (pLenL a0).bind fun t0 =>
  (pLenL a1).bind fun t1 =>
  (pBin .neq false t0 t1).bind fun t2 =>
  (pBool t2).bind fun t3 =>
  brn t3 (
    some ((vb false, []))) (
    (pLenL a0).bind fun t4 =>
    L55_0 a1 a2 a0 t4 (vi 0)) :=
  (G_eq rfl Tryz.func55 rfl rfl).trans (by kernel_rfl)
theorem l55_0 (x0 x1 x2 x3 x4 : A) : L55_0 x0 x1 x2 x3 x4 =
  (pBin .lss false x4 x3).bind fun t5 =>
  (pBool t5).bind fun t6 =>
  brn t6 (
    (pIndexAddr 2 x2 x4).bind fun t7 =>
    (pLoadN 2 t7).bind fun t8 =>
    (pCells 2 t8).bind fun t9 =>
    (pIndexAddr 2 x0 x4).bind fun t10 =>
    (pLoadN 2 t10).bind fun t11 =>
    (pCells 2 t11).bind fun t12 =>
    (DX.run K (MM K) (.callc x1 [A.agg [cGet t9 0, cGet t9 1], A.agg [cGet t12 0, cGet t12 1]] false)).bind fun t13 =>
    (pUn .not t13).bind fun t14 =>
    (pBool t14).bind fun t15 =>
    brn t15 (
      some ((vb false, []))) (
      (pBin .add false x4 (vi 1)).bind fun t16 =>
      L55_0 x0 x1 x2 x3 t16)) (
    some ((vb true, []))) :=
  (H_eq Tryz.func55 rfl).trans (by kernel_rfl)
theorem g56 (a0 : A) : G 56 [a0] =
  (pCells 2 a0).bind fun t0 =>
  (pIndexS (cGet t0 0) (vi 0)).bind fun t1 =>
  ((G 85 [t1]).bind (fin false)).bind fun t2 =>
  some ((t2, [])) :=
  (G_eq rfl Tryz.func56 rfl rfl).trans (by kernel_rfl)
theorem g57 (a0 a1 a2 : A) : G 57 [a0, a1, a2] =
  (pCells 2 a0).bind fun t0 =>
  (pLoadN 2 a1).bind fun t1 =>
  ((G 25 [A.agg [cGet t0 0, cGet t0 1], t1]).bind (fin false)).bind fun t2 =>
  (pG t2 false (pLoadN 3 a2)).bind fun t3 =>
  (pWant t2 false).bind fun t4 =>
  (pG t2 false (pLoadN 2 a1)).bind fun t5 =>
  (pG t2 false ((G 27 [t3, A.agg [cGet t0 0, cGet t0 1], t5]).bind (fin false))).bind fun t6 =>
  (pPick t2 (vb true) t6).bind fun t7 =>
  some ((t7, [])) :=
  (G_eq rfl Tryz.func57 rfl rfl).trans (by kernel_rfl)
theorem g58 (a0 a1 a2 : A) : G 58 [a0, a1, a2] =
  (pCells 2 a0).bind fun t0 =>
  (pLoadN 3 a1).bind fun t1 =>
  (pLoadN 2 a2).bind fun t2 =>
  ((G 27 [t1, t2, A.agg [cGet t0 0, cGet t0 1]]).bind (fin false)).bind fun t3 =>
  (pUn .not t3).bind fun t4 =>
  some ((t4, [])) :=
  (G_eq rfl Tryz.func58 rfl rfl).trans (by kernel_rfl)
theorem g59 (a0 a1 a2 : A) : G 59 [a0, a1, a2] =
  (pCells 3 a0).bind fun t0 =>
  (pCells 2 a1).bind fun t1 =>
  (pCells 2 a2).bind fun t2 =>
  ((G 86 [cGet t0 0, cGet t1 0]).bind (fin false)).bind fun t3 =>
  ((G 86 [cGet t0 0, cGet t2 0]).bind (fin false)).bind fun t4 =>
  (pBin .lss false t3 t4).bind fun t5 =>
  (pG t5 false (some t3)).bind fun t6 =>
  (pG t5 false (some t4)).bind fun t7 =>
  (pG t5 false (pBin .eql false t6 t7)).bind fun t8 =>
  (pG t5 false (some t8)).bind fun t9 =>
  (pWant t9 true).bind fun t10 =>
  (pG t9 true (some (cGet t1 1))).bind fun t11 =>
  (pG t9 true (pLenL t11)).bind fun t12 =>
  (pWant t9 true).bind fun t13 =>
  (pG t9 true (some (cGet t2 1))).bind fun t14 =>
  (pG t9 true (pLenL t14)).bind fun t15 =>
  (pG t9 true (pBin .lss false t12 t15)).bind fun t16 =>
  (pG t5 false (pPick t9 t16 (vb false))).bind fun t17 =>
  (pPick t5 (vb true) t17).bind fun t18 =>
  some ((t18, [])) :=
  (G_eq rfl Tryz.func59 rfl rfl).trans (by kernel_rfl)
theorem g60 (a0 a1 : A) : G 60 [a0, a1] =
  (pCells 2 a0).bind fun t0 =>
  (pCells 2 a1).bind fun t1 =>
  (pBin .neq false (cGet t0 0) (cGet t1 0)).bind fun t2 =>
  (pWant t2 false).bind fun t3 =>
  (pG t2 false (some (cGet t0 1))).bind fun t4 =>
  (pG t2 false (pLenL t4)).bind fun t5 =>
  (pWant t2 false).bind fun t6 =>
  (pG t2 false (some (cGet t1 1))).bind fun t7 =>
  (pG t2 false (pLenL t7)).bind fun t8 =>
  (pG t2 false (pBin .neq false t5 t8)).bind fun t9 =>
  (pPick t2 (vb true) t9).bind fun t10 =>
  (pBool t10).bind fun t11 =>
  brn t11 (
    some ((A.tup [A.agg [sv [], A.sl 2 []], A.agg [sv [], A.sl 2 []], vb false], []))) (
    (pLenL (cGet t0 1)).bind fun t12 =>
    L60_0 (cGet t0 1) t12 (vi 0) (cGet t1 0) (cGet t1 1) (sv []) (sv []) [] []) :=
  (G_eq rfl Tryz.func60 rfl rfl).trans (by kernel_rfl)
theorem l60_0 (x0 x1 x2 x3 x4 x5 x6 : A) (r0 r1 : List (List A)) : L60_0 x0 x1 x2 x3 x4 x5 x6 r0 r1 =
  (pBin .lss false x2 x1).bind fun t13 =>
  (pBool t13).bind fun t14 =>
  brn t14 (
    (pIndexAddr 2 x0 x2).bind fun t15 =>
    (pLoadN 2 t15).bind fun t16 =>
    (pCells 2 t16).bind fun t17 =>
    (pIndexAddr 2 x4 x2).bind fun t18 =>
    (pLoadN 2 t18).bind fun t19 =>
    ((G 25 [A.agg [cGet t17 0, cGet t17 1], t19]).bind (fin false)).bind fun t20 =>
    (pUn .not t20).bind fun t21 =>
    (pBool t21).bind fun t22 =>
    brn t22 (
      (pIndexAddr 2 x4 x2).bind fun t23 =>
      (pLoadN 2 t23).bind fun t24 =>
      brn (okA (cGet t17 0)) (
        brn (okA (cGet t17 1)) (
          (pCells 2 t24).bind fun t25 =>
          some ((A.tup [A.agg [cGet t17 0, cGet t17 1], A.agg [cGet t25 0, cGet t25 1], vb true], []))) (
          none)) (
        none)) (
      (pBin .add false x2 (vi 1)).bind fun t26 =>
      L60_0 x0 x1 t26 x3 x4 x5 x6 r0 r1)) (
    some ((A.tup [A.agg [sv [], A.sl 2 []], A.agg [sv [], A.sl 2 []], vb false], []))) :=
  (H_eq Tryz.func60 rfl).trans (by kernel_rfl)
theorem g61 (a0 a1 a2 : A) : G 61 [a0, a1, a2] =
  (pBin .geq false a0 a1).bind fun t0 =>
  (pG t0 true (some a0)).bind fun t1 =>
  (pG t0 true (some a2)).bind fun t2 =>
  (pG t0 true (pBin .leq false t1 t2)).bind fun t3 =>
  (pPick t0 t3 (vb false)).bind fun t4 =>
  some ((t4, [])) :=
  (G_eq rfl Tryz.func61 rfl rfl).trans (by kernel_rfl)
theorem g62 (a0 : A) : G 62 [a0] =
  (pLenS a0).bind fun t0 =>
  ((G 61 [t0, vi 1, vi 6]).bind (fin false)).bind fun t1 =>
  (pUn .not t1).bind fun t2 =>
  (pG t2 false (some a0)).bind fun t3 =>
  (pG t2 false (pIndexS t3 (vi 0))).bind fun t4 =>
  (pG t2 false (pBin .lss false t4 (vy 97))).bind fun t5 =>
  (pPick t2 (vb true) t5).bind fun t6 =>
  (pG t6 false (some a0)).bind fun t7 =>
  (pG t6 false (pIndexS t7 (vi 0))).bind fun t8 =>
  (pG t6 false (pBin .gtr false t8 (vy 122))).bind fun t9 =>
  (pPick t6 (vb true) t9).bind fun t10 =>
  (pBool t10).bind fun t11 =>
  brn t11 (
    some ((vb false, []))) (
    (pBin .eql false a0 (sv [116, 114, 117, 101])).bind fun t12 =>
    (pBool t12).bind fun t13 =>
    brn t13 (
      (pBool t12).bind fun t14 =>
      brn t14 (
        some ((vb false, []))) (
        L62_0 a0 (vi 1))) (
      (pBin .eql false a0 (sv [102, 97, 108, 115, 101])).bind fun t15 =>
      (pBool t15).bind fun t16 =>
      brn t16 (
        (pBool t15).bind fun t17 =>
        brn t17 (
          some ((vb false, []))) (
          L62_0 a0 (vi 1))) (
        (pBin .eql false a0 (sv [116, 114, 117, 116, 104])).bind fun t18 =>
        (pBool t18).bind fun t19 =>
        brn t19 (
          (pBool t18).bind fun t20 =>
          brn t20 (
            some ((vb false, []))) (
            L62_0 a0 (vi 1))) (
          (pBin .eql false a0 (sv [98, 111, 116, 104])).bind fun t21 =>
          (pBool t21).bind fun t22 =>
          brn t22 (
            (pBool t21).bind fun t23 =>
            brn t23 (
              some ((vb false, []))) (
              L62_0 a0 (vi 1))) (
            (pBin .eql false a0 (sv [101, 105, 116, 104, 101, 114])).bind fun t24 =>
            (pBool t24).bind fun t25 =>
            brn t25 (
              (pBool t24).bind fun t26 =>
              brn t26 (
                some ((vb false, []))) (
                L62_0 a0 (vi 1))) (
              (pBin .eql false a0 (sv [105, 102])).bind fun t27 =>
              (pBool t27).bind fun t28 =>
              brn t28 (
                (pBool t27).bind fun t29 =>
                brn t29 (
                  some ((vb false, []))) (
                  L62_0 a0 (vi 1))) (
                (pBin .eql false a0 (sv [97, 108, 108])).bind fun t30 =>
                (pBool t30).bind fun t31 =>
                brn t31 (
                  (pBool t30).bind fun t32 =>
                  brn t32 (
                    some ((vb false, []))) (
                    L62_0 a0 (vi 1))) (
                  (pBin .eql false a0 (sv [115, 111, 109, 101])).bind fun t33 =>
                  (pBool t33).bind fun t34 =>
                  brn t34 (
                    some ((vb false, []))) (
                    L62_0 a0 (vi 1)))))))))) :=
  (G_eq rfl Tryz.func62 rfl rfl).trans (by kernel_rfl)
theorem l62_0 (x0 x1 : A) : L62_0 x0 x1 =
  (pLenS x0).bind fun t35 =>
  (pBin .lss false x1 t35).bind fun t36 =>
  (pBool t36).bind fun t37 =>
  brn t37 (
    (pIndexS x0 x1).bind fun t38 =>
    ((G 72 [t38]).bind (fin false)).bind fun t39 =>
    (pUn .not t39).bind fun t40 =>
    (pG t40 true (some x0)).bind fun t41 =>
    (pG t40 true (some x1)).bind fun t42 =>
    (pG t40 true (pIndexS t41 t42)).bind fun t43 =>
    (pG t40 true (pBin .neq false t43 (vy 95))).bind fun t44 =>
    (pPick t40 t44 (vb false)).bind fun t45 =>
    (pBool t45).bind fun t46 =>
    brn t46 (
      some ((vb false, []))) (
      (pBin .add false x1 (vi 1)).bind fun t47 =>
      L62_0 x0 t47)) (
    some ((vb true, []))) :=
  (H_eq Tryz.func62 rfl).trans (by kernel_rfl)
theorem g63 (a0 a1 : A) : G 63 [a0, a1] =
  L63_0 a0 a1 (vi 0) :=
  (G_eq rfl Tryz.func63 rfl rfl).trans (by kernel_rfl)
theorem l63_0 (x0 x1 x2 : A) : L63_0 x0 x1 x2 =
  (pLenL x0).bind fun t0 =>
  (pBin .lss false x2 t0).bind fun t1 =>
  (pBool t1).bind fun t2 =>
  brn t2 (
    (pIndexAddr 1 x0 x2).bind fun t3 =>
    (pLoadP t3).bind fun t4 =>
    (pBin .eql false t4 x1).bind fun t5 =>
    (pBool t5).bind fun t6 =>
    brn t6 (
      some ((vb true, []))) (
      (pBin .add false x2 (vi 1)).bind fun t7 =>
      L63_0 x0 x1 t7)) (
    some ((vb false, []))) :=
  (H_eq Tryz.func63 rfl).trans (by kernel_rfl)
theorem g64 (a0 a1 : A) : G 64 [a0, a1] =
  (pCells 3 a0).bind fun t0 =>
  (pCells 2 a1).bind fun t1 =>
  ((G 43 [cGet t1 0]).bind (fin false)).bind fun t2 =>
  (pUn .not t2).bind fun t3 =>
  (pWant t3 true).bind fun t4 =>
  (pWant t3 true).bind fun t5 =>
  (pG t3 true (some (cGet t1 0))).bind fun t6 =>
  (pG t3 true ((G 87 [A.agg [cGet t0 0, cGet t0 1, cGet t0 2], t6]).bind (fin false))).bind fun t7 =>
  (pG t3 true (pBin .lss false t7 (vi 0))).bind fun t8 =>
  (pPick t3 t8 (vb false)).bind fun t9 =>
  (pBool t9).bind fun t10 =>
  brn t10 (
    some ((vb false, []))) (
    L64_0 (vi 0) (cGet t0 0) (cGet t0 1) (cGet t0 2) (cGet t1 0) (cGet t1 1)) :=
  (G_eq rfl Tryz.func64 rfl rfl).trans (by kernel_rfl)
theorem l64_0 (x0 x1 x2 x3 x4 x5 : A) : L64_0 x0 x1 x2 x3 x4 x5 =
  (pLenL x5).bind fun t11 =>
  (pBin .lss false x0 t11).bind fun t12 =>
  (pBool t12).bind fun t13 =>
  brn t13 (
    (pIndexAddr 2 x5 x0).bind fun t14 =>
    (pLoadN 2 t14).bind fun t15 =>
    ((G 64 [A.agg [x1, x2, x3], t15]).bind (fin false)).bind fun t16 =>
    (pUn .not t16).bind fun t17 =>
    (pBool t17).bind fun t18 =>
    brn t18 (
      some ((vb false, []))) (
      (pBin .add false x0 (vi 1)).bind fun t19 =>
      L64_0 t19 x1 x2 x3 x4 x5)) (
    some ((vb true, []))) :=
  (H_eq Tryz.func64 rfl).trans (by kernel_rfl)
theorem g65 (a0 a1 : A) : G 65 [a0, a1] =
  (pCells 2 a0).bind fun t0 =>
  (pCells 2 a1).bind fun t1 =>
  ((G 88 [A.agg [cGet t1 0, cGet t1 1]]).bind (fin false)).bind fun t2 =>
  L65_0 t2 (vi 0) (cGet t0 0) (cGet t0 1) (cGet t1 0) (cGet t1 1) :=
  (G_eq rfl Tryz.func65 rfl rfl).trans (by kernel_rfl)
theorem l65_0 (x0 x1 x2 x3 x4 x5 : A) : L65_0 x0 x1 x2 x3 x4 x5 =
  (pLenL x0).bind fun t3 =>
  (pBin .lss false x1 t3).bind fun t4 =>
  (pBool t4).bind fun t5 =>
  brn t5 (
    (pIndexAddr 1 x0 x1).bind fun t6 =>
    (pLoadP t6).bind fun t7 =>
    ((G 89 [A.agg [x2, x3], t7]).bind (fin false)).bind fun t8 =>
    (pIndexAddr 1 x0 x1).bind fun t9 =>
    (pLoadP t9).bind fun t10 =>
    ((G 89 [A.agg [x4, x5], t10]).bind (fin false)).bind fun t11 =>
    (pBin .lss false t8 t11).bind fun t12 =>
    (pBool t12).bind fun t13 =>
    brn t13 (
      some ((vb false, []))) (
      (pBin .add false x1 (vi 1)).bind fun t14 =>
      L65_0 x0 t14 x2 x3 x4 x5)) (
    some ((vb true, []))) :=
  (H_eq Tryz.func65 rfl).trans (by kernel_rfl)
theorem g66 (a0 a1 : A) : G 66 [a0, a1] =
  (pCells 3 a0).bind fun t0 =>
  (pCells 2 a1).bind fun t1 =>
  ((G 43 [cGet t1 0]).bind (fin false)).bind fun t2 =>
  (pUn .not t2).bind fun t3 =>
  (pBool t3).bind fun t4 =>
  brn t4 (
    ((G 87 [A.agg [cGet t0 0, cGet t0 1, cGet t0 2], cGet t1 0]).bind (fin false)).bind fun t5 =>
    (pIndexAddr 1 (cGet t0 1) t5).bind fun t6 =>
    (pLoadP t6).bind fun t7 =>
    L66_0 t7 (vi 0) (cGet t0 0) (cGet t0 1) (cGet t0 2) (cGet t1 0) (cGet t1 1)) (
    L66_0 (cGet t0 2) (vi 0) (cGet t0 0) (cGet t0 1) (cGet t0 2) (cGet t1 0) (cGet t1 1)) :=
  (G_eq rfl Tryz.func66 rfl rfl).trans (by kernel_rfl)
theorem l66_0 (x0 x1 x2 x3 x4 x5 x6 : A) : L66_0 x0 x1 x2 x3 x4 x5 x6 =
  (pLenL x6).bind fun t8 =>
  (pBin .lss false x1 t8).bind fun t9 =>
  (pBool t9).bind fun t10 =>
  brn t10 (
    (pIndexAddr 2 x6 x1).bind fun t11 =>
    (pLoadN 2 t11).bind fun t12 =>
    ((G 66 [A.agg [x2, x3, x4], t12]).bind (fin false)).bind fun t13 =>
    (pBin .add false x0 t13).bind fun t14 =>
    (pBin .add false x1 (vi 1)).bind fun t15 =>
    L66_0 t14 t15 x2 x3 x4 x5 x6) (
    some ((x0, []))) :=
  (H_eq Tryz.func66 rfl).trans (by kernel_rfl)
theorem g67 (a0 a1 a2 : A) : G 67 [a0, a1, a2] =
  (pCells 3 a0).bind fun t0 =>
  (pCells 2 a1).bind fun t1 =>
  (pCells 2 a2).bind fun t2 =>
  ((G 87 [A.agg [cGet t0 0, cGet t0 1, cGet t0 2], cGet t1 0]).bind (fin false)).bind fun t3 =>
  ((G 87 [A.agg [cGet t0 0, cGet t0 1, cGet t0 2], cGet t2 0]).bind (fin false)).bind fun t4 =>
  (pBin .eql false t3 t4).bind fun t5 =>
  (pBool t5).bind fun t6 =>
  brn t6 (
    (pLenL (cGet t1 1)).bind fun t7 =>
    (pLenL (cGet t2 1)).bind fun t8 =>
    (pBin .lss false t7 t8).bind fun t9 =>
    (pBool t9).bind fun t10 =>
    brn t10 (
      some ((vi (-1), []))) (
      (pBin .gtr false t7 t8).bind fun t11 =>
      (pBool t11).bind fun t12 =>
      brn t12 (
        some ((vi 1, []))) (
        some ((vi 0, []))))) (
    (pBin .lss false t3 t4).bind fun t13 =>
    (pBool t13).bind fun t14 =>
    brn t14 (
      some ((vi (-1), []))) (
      (pBin .gtr false t3 t4).bind fun t15 =>
      (pBool t15).bind fun t16 =>
      brn t16 (
        some ((vi 1, []))) (
        some ((vi 0, []))))) :=
  (G_eq rfl Tryz.func67 rfl rfl).trans (by kernel_rfl)
theorem g68 (a0 a1 : A) : G 68 [a0, a1] =
  (pCells 2 a0).bind fun t0 =>
  (pCells 2 a1).bind fun t1 =>
  L68_0 (vi 0) (cGet t0 0) (cGet t0 1) (cGet t1 0) (cGet t1 1) :=
  (G_eq rfl Tryz.func68 rfl rfl).trans (by kernel_rfl)
theorem l68_0 (x0 x1 x2 x3 x4 : A) : L68_0 x0 x1 x2 x3 x4 =
  (pLenL x2).bind fun t2 =>
  (pBin .lss false x0 t2).bind fun t3 =>
  (pBool t3).bind fun t4 =>
  brn t4 (
    (pIndexAddr 2 x2 x0).bind fun t5 =>
    (pLoadN 2 t5).bind fun t6 =>
    (pIndexAddr 2 x4 x0).bind fun t7 =>
    (pLoadN 2 t7).bind fun t8 =>
    ((G 32 [t6, t8]).bind (fin false)).bind fun t9 =>
    (pUn .not t9).bind fun t10 =>
    (pBool t10).bind fun t11 =>
    brn t11 (
      some ((x0, []))) (
      (pBin .add false x0 (vi 1)).bind fun t12 =>
      L68_0 t12 x1 x2 x3 x4)) (
    some ((vi (-1), []))) :=
  (H_eq Tryz.func68 rfl).trans (by kernel_rfl)
theorem c69_0 (x0 x1 x2 : A) : C69_0 x0 x1 x2 =
  (pLenL x0).bind fun t0 =>
  (pBin .lss false x1 t0).bind fun t1 =>
  (pBool t1).bind fun t2 =>
  brn t2 (
    (pIndexAddr 1 x0 x1).bind fun t3 =>
    (pLoadP t3).bind fun t4 =>
    (pConv .i64 t4).bind fun t5 =>
    (pBin .add false x1 (vi 1)).bind fun t6 =>
    brn (okA t6) (
      (pBin .mul false x2 (A.val (.int .u64 6364136223846793005))).bind fun t7 =>
      (pConv .u64 t5).bind fun t8 =>
      (pBin .add false t7 t8).bind fun t9 =>
      (pBin .add false t9 (A.val (.int .u64 892892))).bind fun t10 =>
      brn (okA t10) (
        (pLenL x0).bind fun t11 =>
        (pBin .leq false t6 t11).bind fun t12 =>
        (pBool t12).bind fun t13 =>
        brn t13 (
          some ((A.top, [x0, t6, t10, t5]))) (
          (pBin .shr false t10 (A.val (.int .u64 40))).bind fun t14 =>
          (pBin .and false t14 (A.val (.int .u64 255))).bind fun t15 =>
          (pConv .i64 t15).bind fun t16 =>
          some ((A.top, [x0, t6, t10, t16])))) (
        none)) (
      none)) (
    (pBin .add false x1 (vi 1)).bind fun t17 =>
    brn (okA t17) (
      (pBin .mul false x2 (A.val (.int .u64 6364136223846793005))).bind fun t18 =>
      (pConv .u64 (vi 0)).bind fun t19 =>
      (pBin .add false t18 t19).bind fun t20 =>
      (pBin .add false t20 (A.val (.int .u64 892892))).bind fun t21 =>
      brn (okA t21) (
        (pLenL x0).bind fun t22 =>
        (pBin .leq false t17 t22).bind fun t23 =>
        (pBool t23).bind fun t24 =>
        brn t24 (
          some ((A.top, [x0, t17, t21, vi 0]))) (
          (pBin .shr false t21 (A.val (.int .u64 40))).bind fun t25 =>
          (pBin .and false t25 (A.val (.int .u64 255))).bind fun t26 =>
          (pConv .i64 t26).bind fun t27 =>
          some ((A.top, [x0, t17, t21, t27])))) (
        none)) (
      none)) :=
  (V_eq rfl Tryz.func69 rfl rfl).trans (by kernel_rfl)
theorem c70_0 (x0 x1 x2 : A) : C70_0 x0 x1 x2 =
  L70c0_0 (vi 0) x0 x1 x2 (sv []) (sv [103]) [] [] :=
  (V_eq rfl Tryz.func70 rfl rfl).trans (by kernel_rfl)
theorem l70c0_0 (x0 x1 x2 x3 x4 x5 : A) (r0 r1 : List (List A)) : L70c0_0 x0 x1 x2 x3 x4 x5 r0 r1 =
  (pBin .lss false x0 (vi 4)).bind fun t0 =>
  (pBool t0).bind fun t1 =>
  brn t1 (
    L70c0_1 x0 (vi 0) x1 x2 x3 x4 x5 (sv [104]) r0 r1 []) (
    (C15_0 (vi 2) x1 x2 x3).bind fun t2 =>
    (hD t2 0).bind fun t3 =>
    (hD t2 1).bind fun t4 =>
    (hD t2 2).bind fun t5 =>
    (hD t2 3).bind fun t6 =>
    (pBool t6).bind fun t7 =>
    brn t7 (
      (pB (rCnt r1) (rRem r1 0) (some (vi 3))).bind fun t8 =>
      (C15_0 (vi 2) t3 t4 t5).bind fun t9 =>
      (hD t9 0).bind fun t10 =>
      (hD t9 1).bind fun t11 =>
      (hD t9 2).bind fun t12 =>
      (hD t9 3).bind fun t13 =>
      (pWant t13 true).bind fun t14 =>
      (pWant t13 true).bind fun t15 =>
      (pG t13 true (some (nA (nSub t8 0)))).bind fun t16 =>
      (pG t13 true (pBin .eql false t16 (vi 3))).bind fun t17 =>
      (pPick t13 t17 (vb false)).bind fun t18 =>
      (pBool t18).bind fun t19 =>
      brn t19 (
        brn (pRoom 0 (nSub t8 0) [[sv [102], A.sl 2 [[sv [98], A.sl 2 []]]]] r1) (
          brn (okA x5) (
            some ((A.top, [t10, t11, t12, A.agg [x5, A.sl 2 (List.take ((nSub t8 0) + (rCnt [[sv [102], A.sl 2 [[sv [98], A.sl 2 []]]]])) (rOver r1 (0 + (nSub t8 0)) [[sv [102], A.sl 2 [[sv [98], A.sl 2 []]]]]))]]))) (
            none)) (
          none)) (
        brn (okA x5) (
          some ((A.top, [t10, t11, t12, A.agg [x5, A.sl 2 (List.take (nSub t8 0) r1)]]))) (
          none))) (
      (C15_0 (vi 2) t3 t4 t5).bind fun t20 =>
      (hD t20 0).bind fun t21 =>
      (hD t20 1).bind fun t22 =>
      (hD t20 2).bind fun t23 =>
      (hD t20 3).bind fun t24 =>
      (pWant t24 true).bind fun t25 =>
      (pWant t24 true).bind fun t26 =>
      (pG t24 true (some (rLen r1))).bind fun t27 =>
      (pG t24 true (pBin .eql false t27 (vi 3))).bind fun t28 =>
      (pPick t24 t28 (vb false)).bind fun t29 =>
      (pBool t29).bind fun t30 =>
      brn t30 (
        brn (pFit ((rLenN r1) + (rLenN [[sv [102], A.sl 2 [[sv [98], A.sl 2 []]]]])) 40) (
          brn (okA x5) (
            some ((A.top, [t21, t22, t23, A.agg [x5, A.sl 2 (rApp r1 [[sv [102], A.sl 2 [[sv [98], A.sl 2 []]]]])]]))) (
            none)) (
          none)) (
        brn (okA x5) (
          some ((A.top, [t21, t22, t23, A.agg [x5, A.sl 2 r1]]))) (
          none)))) :=
  (H_eq Tryz.func70 rfl).trans (by kernel_rfl)
theorem l70c0_1 (x0 x1 x2 x3 x4 x5 x6 x7 : A) (r0 r1 r2 : List (List A)) : L70c0_1 x0 x1 x2 x3 x4 x5 x6 x7 r0 r1 r2 =
  (pBin .lss false x1 (vi 4)).bind fun t31 =>
  (pBool t31).bind fun t32 =>
  brn t32 (
    brn (pFit ((rLenN r2) + (rLenN [[sv [102], A.sl 2 [[sv [97], A.sl 2 []]]]])) 40) (
      (pBin .add false x1 (vi 1)).bind fun t33 =>
      L70c0_1 x0 t33 x2 x3 x4 x5 x6 x7 r0 r1 (rApp r2 [[sv [102], A.sl 2 [[sv [97], A.sl 2 []]]]])) (
      none)) (
    brn (okA x7) (
      brn (pFit ((rLenN r1) + (rLenN [[x7, A.sl 2 r2]])) 40) (
        (pBin .add false x0 (vi 1)).bind fun t34 =>
        L70c0_0 t34 x2 x3 x4 x5 x6 r0 (rApp r1 [[x7, A.sl 2 r2]])) (
        none)) (
      none)) :=
  (H_eq Tryz.func70 rfl).trans (by kernel_rfl)
theorem c71_0 (x0 x1 : A) (r0 r1 : List (List A)) : C71_0 x0 x1 r0 r1 =
  brn (okA x1) (
    (pBin .eql false x1 x0).bind fun t0 =>
    (pBool t0).bind fun t1 =>
    brn t1 (
      some ((A.top, [A.sl 3 r0]))) (
      L71c0_0 x0 (vi 0) x1 r0 r1 [])) (
    none) :=
  (V_eq rfl Tryz.func71 rfl rfl).trans (by kernel_rfl)
theorem l71c0_0 (x0 x1 x2 : A) (r0 r1 r2 : List (List A)) : L71c0_0 x0 x1 x2 r0 r1 r2 =
  (pBin .lss false x1 (rLen r0)).bind fun t2 =>
  (pWant t2 true).bind fun t3 =>
  (pWant t2 true).bind fun t4 =>
  (pG t2 true (some x1)).bind fun t5 =>
  (pWant t2 true).bind fun t6 =>
  brn t6 (
    (pIx (rLenN r0) t5).bind fun t7 =>
    (pWant t2 true).bind fun t8 =>
    (pG t2 true (pRowP r0 t7 0)).bind fun t9 =>
    (pG t2 true (some x0)).bind fun t10 =>
    (pG t2 true (pBin .lss false t9 t10)).bind fun t11 =>
    (pPick t2 t11 (vb false)).bind fun t12 =>
    (pBool t12).bind fun t13 =>
    brn t13 (
      (pBin .add false x1 (vi 1)).bind fun t14 =>
      L71c0_0 x0 t14 x2 r0 r1 r2) (
      (pB (rCnt r0) (rRem r0 0) (some x1)).bind fun t15 =>
      brn (pFit (rLenN (rWin r0 0 (nSub t15 0))) 56) (
        (G 38 [A.agg [x2, A.sl 2 r1]]).bind fun t16 =>
        (fin false t16).bind fun t17 =>
        (buildA (fun f =>
  match (Go.Proofs.YtbikhinddomhpaaGreat.K.at 71).D 71 with
  | some i =>
    match i.kind with
    | Go.Proofs.YtbikhinddomhpaaGreat.Abs.TK.struct fs =>
      match fs[f]? with
      | some (off, t) =>
        match (Go.Proofs.YtbikhinddomhpaaGreat.K.at 71).D t with
        | some j => if j.kind.known = true then some (off, j) else none
        | none => none
      | none => none
    | x => none
  | none => none) [sv [], sv [], A.sl 2 []] [(0, x0), (1, t17)]).bind fun t18 =>
        (pCells 3 t18).bind fun t19 =>
        brn (pFit ((rLenN (rWin r0 0 (nSub t15 0))) + (rLenN [[cGet t19 0, cGet t19 1, cGet t19 2]])) 56) (
          (pB (rCnt r0) (rRem r0 0) none).bind fun t20 =>
          (pB 0 t20 (some x1)).bind fun t21 =>
          brn (pFit ((rLenN (rApp (rWin r0 0 (nSub t15 0)) [[cGet t19 0, cGet t19 1, cGet t19 2]])) + (rLenN (rWin r0 (0 + t21) (nSub t20 t21)))) 56) (
            some ((A.top, [A.sl 3 (rApp (rApp (rWin r0 0 (nSub t15 0)) [[cGet t19 0, cGet t19 1, cGet t19 2]]) (rWin r0 (0 + t21) (nSub t20 t21)))]))) (
            none)) (
          none)) (
        none))) (
    (pG t2 true (pAdd (A.val undef) 0)).bind fun t22 =>
    (pG t2 true (pLoadP t22)).bind fun t23 =>
    (pG t2 true (some x0)).bind fun t24 =>
    (pG t2 true (pBin .lss false t23 t24)).bind fun t25 =>
    (pPick t2 t25 (vb false)).bind fun t26 =>
    (pBool t26).bind fun t27 =>
    brn t27 (
      (pBin .add false x1 (vi 1)).bind fun t28 =>
      L71c0_0 x0 t28 x2 r0 r1 r2) (
      (pB (rCnt r0) (rRem r0 0) (some x1)).bind fun t29 =>
      brn (pFit (rLenN (rWin r0 0 (nSub t29 0))) 56) (
        (G 38 [A.agg [x2, A.sl 2 r1]]).bind fun t30 =>
        (fin false t30).bind fun t31 =>
        (buildA (fun f =>
  match (Go.Proofs.YtbikhinddomhpaaGreat.K.at 71).D 71 with
  | some i =>
    match i.kind with
    | Go.Proofs.YtbikhinddomhpaaGreat.Abs.TK.struct fs =>
      match fs[f]? with
      | some (off, t) =>
        match (Go.Proofs.YtbikhinddomhpaaGreat.K.at 71).D t with
        | some j => if j.kind.known = true then some (off, j) else none
        | none => none
      | none => none
    | x => none
  | none => none) [sv [], sv [], A.sl 2 []] [(0, x0), (1, t31)]).bind fun t32 =>
        (pCells 3 t32).bind fun t33 =>
        brn (pFit ((rLenN (rWin r0 0 (nSub t29 0))) + (rLenN [[cGet t33 0, cGet t33 1, cGet t33 2]])) 56) (
          (pB (rCnt r0) (rRem r0 0) none).bind fun t34 =>
          (pB 0 t34 (some x1)).bind fun t35 =>
          brn (pFit ((rLenN (rApp (rWin r0 0 (nSub t29 0)) [[cGet t33 0, cGet t33 1, cGet t33 2]])) + (rLenN (rWin r0 (0 + t35) (nSub t34 t35)))) 56) (
            some ((A.top, [A.sl 3 (rApp (rApp (rWin r0 0 (nSub t29 0)) [[cGet t33 0, cGet t33 1, cGet t33 2]]) (rWin r0 (0 + t35) (nSub t34 t35)))]))) (
            none)) (
          none)) (
        none))) :=
  (H_eq Tryz.func71 rfl).trans (by kernel_rfl)
theorem g72 (a0 : A) : G 72 [a0] =
  (pBin .geq false a0 (vy 97)).bind fun t0 =>
  (pG t0 true (some a0)).bind fun t1 =>
  (pG t0 true (pBin .leq false t1 (vy 122))).bind fun t2 =>
  (pPick t0 t2 (vb false)).bind fun t3 =>
  (pG t3 false (some a0)).bind fun t4 =>
  (pG t3 false (pBin .geq false t4 (vy 48))).bind fun t5 =>
  (pG t3 false (some t5)).bind fun t6 =>
  (pG t6 true (some a0)).bind fun t7 =>
  (pG t6 true (pBin .leq false t7 (vy 57))).bind fun t8 =>
  (pG t3 false (pPick t6 t8 (vb false))).bind fun t9 =>
  (pPick t3 (vb true) t9).bind fun t10 =>
  some ((t10, [])) :=
  (G_eq rfl Tryz.func72 rfl rfl).trans (by kernel_rfl)
theorem g73 (a0 : A) : G 73 [a0] =
  (pCells 2 a0).bind fun t0 =>
  ((G 90 [A.agg [cGet t0 0, cGet t0 1], vi 30]).bind (fin false)).bind fun t1 =>
  (pBin .leq false t1 (vi 30)).bind fun t2 =>
  (pWant t2 true).bind fun t3 =>
  (pG t2 true ((G 91 [A.agg [cGet t0 0, cGet t0 1]]).bind (fin false))).bind fun t4 =>
  (pG t2 true (pBin .leq false t4 (vi 8))).bind fun t5 =>
  (pPick t2 t5 (vb false)).bind fun t6 =>
  some ((t6, [])) :=
  (G_eq rfl Tryz.func73 rfl rfl).trans (by kernel_rfl)
theorem g74 (a0 : A) : G 74 [a0] =
  (pCells 2 a0).bind fun t0 =>
  ((G 43 [cGet t0 0]).bind (fin false)).bind fun t1 =>
  (pBool t1).bind fun t2 =>
  brn t2 (
    (pLenL (cGet t0 1)).bind fun t3 =>
    (pBin .eql false t3 (vi 0)).bind fun t4 =>
    some ((t4, []))) (
    ((G 62 [cGet t0 0]).bind (fin false)).bind fun t5 =>
    (pUn .not t5).bind fun t6 =>
    (pWant t6 false).bind fun t7 =>
    (pG t6 false (some (cGet t0 1))).bind fun t8 =>
    (pG t6 false (pLenL t8)).bind fun t9 =>
    (pG t6 false (pBin .gtr false t9 (vi 4))).bind fun t10 =>
    (pPick t6 (vb true) t10).bind fun t11 =>
    (pBool t11).bind fun t12 =>
    brn t12 (
      some ((vb false, []))) (
      L74_0 (vi 0) (cGet t0 0) (cGet t0 1))) :=
  (G_eq rfl Tryz.func74 rfl rfl).trans (by kernel_rfl)
theorem l74_0 (x0 x1 x2 : A) : L74_0 x0 x1 x2 =
  (pLenL x2).bind fun t13 =>
  (pBin .lss false x0 t13).bind fun t14 =>
  (pBool t14).bind fun t15 =>
  brn t15 (
    (pIndexAddr 2 x2 x0).bind fun t16 =>
    (pLoadN 2 t16).bind fun t17 =>
    ((G 74 [t17]).bind (fin false)).bind fun t18 =>
    (pUn .not t18).bind fun t19 =>
    (pBool t19).bind fun t20 =>
    brn t20 (
      some ((vb false, []))) (
      (pBin .add false x0 (vi 1)).bind fun t21 =>
      L74_0 t21 x1 x2)) (
    some ((vb true, []))) :=
  (H_eq Tryz.func74 rfl).trans (by kernel_rfl)
theorem g75 (a0 a1 a2 : A) : G 75 [a0, a1, a2] =
  (pBin .geq false a0 a1).bind fun t0 =>
  (pG t0 true (some a0)).bind fun t1 =>
  (pG t0 true (some a2)).bind fun t2 =>
  (pG t0 true (pBin .leq false t1 t2)).bind fun t3 =>
  (pPick t0 t3 (vb false)).bind fun t4 =>
  some ((t4, [])) :=
  (G_eq rfl Tryz.func75 rfl rfl).trans (by kernel_rfl)
theorem g76 (a0 : A) : G 76 [a0] =
  (pLenS a0).bind fun t0 =>
  L76_0 a0 t0 (vi 0) :=
  (G_eq rfl Tryz.func76 rfl rfl).trans (by kernel_rfl)
theorem l76_0 (x0 x1 x2 : A) : L76_0 x0 x1 x2 =
  (pBin .lss false x2 x1).bind fun t1 =>
  (pBool t1).bind fun t2 =>
  brn t2 (
    (pBin .eql false x2 (vi 0)).bind fun t3 =>
    (pG t3 true (some x0)).bind fun t4 =>
    (pG t3 true (some x2)).bind fun t5 =>
    (pG t3 true (pIndexS t4 t5)).bind fun t6 =>
    (pG t3 true ((G 92 [t6]).bind (fin false))).bind fun t7 =>
    (pG t3 true (pUn .not t7)).bind fun t8 =>
    (pPick t3 t8 (vb false)).bind fun t9 =>
    (pG t9 false (some x0)).bind fun t10 =>
    (pG t9 false (some x2)).bind fun t11 =>
    (pG t9 false (pIndexS t10 t11)).bind fun t12 =>
    (pG t9 false ((G 92 [t12]).bind (fin false))).bind fun t13 =>
    (pG t9 false (pUn .not t13)).bind fun t14 =>
    (pG t9 false (some t14)).bind fun t15 =>
    (pG t15 true (some x0)).bind fun t16 =>
    (pG t15 true (some x2)).bind fun t17 =>
    (pG t15 true (pIndexS t16 t17)).bind fun t18 =>
    (pG t15 true ((G 93 [t18]).bind (fin false))).bind fun t19 =>
    (pG t15 true (pUn .not t19)).bind fun t20 =>
    (pG t9 false (pPick t15 t20 (vb false))).bind fun t21 =>
    (pG t9 false (some t21)).bind fun t22 =>
    (pG t22 true (some x0)).bind fun t23 =>
    (pG t22 true (some x2)).bind fun t24 =>
    (pG t22 true (pIndexS t23 t24)).bind fun t25 =>
    (pG t22 true (pBin .neq false t25 (vy 95))).bind fun t26 =>
    (pG t9 false (pPick t22 t26 (vb false))).bind fun t27 =>
    (pPick t9 (vb true) t27).bind fun t28 =>
    (pBool t28).bind fun t29 =>
    brn t29 (
      some ((vb false, []))) (
      (pBin .add false x2 (vi 1)).bind fun t30 =>
      L76_0 x0 x1 t30)) (
    (pLenS x0).bind fun t31 =>
    ((G 75 [t31, vi 1, vi 6]).bind (fin false)).bind fun t32 =>
    (pG t32 true ((G 94 []).bind (fin false))).bind fun t33 =>
    (pG t32 true (some x0)).bind fun t34 =>
    (pG t32 true ((G 77 [t33, t34]).bind (fin false))).bind fun t35 =>
    (pG t32 true (pUn .not t35)).bind fun t36 =>
    (pPick t32 t36 (vb false)).bind fun t37 =>
    some ((t37, []))) :=
  (H_eq Tryz.func76 rfl).trans (by kernel_rfl)
theorem g77 (a0 a1 : A) : G 77 [a0, a1] =
  ((G 86 [a0, a1]).bind (fin false)).bind fun t0 =>
  (pBin .geq false t0 (vi 0)).bind fun t1 =>
  some ((t1, [])) :=
  (G_eq rfl Tryz.func77 rfl rfl).trans (by kernel_rfl)
theorem g78 (a0 a1 : A) : G 78 [a0, a1] =
  (pLenL a0).bind fun t0 =>
  L78_0 a0 a1 t0 (vi 0) :=
  (G_eq rfl Tryz.func78 rfl rfl).trans (by kernel_rfl)
theorem l78_0 (x0 x1 x2 x3 : A) : L78_0 x0 x1 x2 x3 =
  (pBin .lss false x3 x2).bind fun t1 =>
  (pBool t1).bind fun t2 =>
  brn t2 (
    (pIndexAddr 2 x0 x3).bind fun t3 =>
    (pLoadN 2 t3).bind fun t4 =>
    (DX.run K (MM K) (.callc x1 [t4] false)).bind fun t5 =>
    (pBool t5).bind fun t6 =>
    brn t6 (
      some ((x3, []))) (
      (pBin .add false x3 (vi 1)).bind fun t7 =>
      L78_0 x0 x1 x2 t7)) (
    some ((vi (-1), []))) :=
  (H_eq Tryz.func78 rfl).trans (by kernel_rfl)
theorem g79 (a0 : A) : G 79 [a0] =
  (pCells 2 a0).bind fun t0 =>
  ((G 95 [A.agg [cGet t0 0, cGet t0 1]]).bind (fin false)).bind fun t1 =>
  (pBin .leq false t1 (vi 30)).bind fun t2 =>
  (pWant t2 true).bind fun t3 =>
  (pG t2 true ((G 96 [A.agg [cGet t0 0, cGet t0 1]]).bind (fin false))).bind fun t4 =>
  (pG t2 true (pBin .leq false t4 (vi 8))).bind fun t5 =>
  (pPick t2 t5 (vb false)).bind fun t6 =>
  some ((t6, [])) :=
  (G_eq rfl Tryz.func79 rfl rfl).trans (by kernel_rfl)
theorem g80 (a0 : A) : G 80 [a0] =
  (pCells 2 a0).bind fun t0 =>
  ((G 97 [cGet t0 0]).bind (fin false)).bind fun t1 =>
  (pBool t1).bind fun t2 =>
  brn t2 (
    (pLenL (cGet t0 1)).bind fun t3 =>
    (pBin .eql false t3 (vi 0)).bind fun t4 =>
    some ((t4, []))) (
    ((G 76 [cGet t0 0]).bind (fin false)).bind fun t5 =>
    (pWant t5 true).bind fun t6 =>
    (pG t5 true (some (cGet t0 1))).bind fun t7 =>
    (pG t5 true (pLenL t7)).bind fun t8 =>
    (pG t5 true (pBin .leq false t8 (vi 4))).bind fun t9 =>
    (pPick t5 t9 (vb false)).bind fun t10 =>
    (pWant t10 true).bind fun t11 =>
    (pG t10 true (some (cGet t0 1))).bind fun t12 =>
    (pG t10 true ((G 48 [t12, A.fn 98 []]).bind (fin false))).bind fun t13 =>
    (pG t10 true (pUn .not t13)).bind fun t14 =>
    (pPick t10 t14 (vb false)).bind fun t15 =>
    some ((t15, []))) :=
  (G_eq rfl Tryz.func80 rfl rfl).trans (by kernel_rfl)
theorem g81 (a0 a1 : A) : G 81 [a0, a1] =
  (pCells 2 a0).bind fun t0 =>
  (pLoadN 3 a1).bind fun t1 =>
  ((G 51 [t1, A.agg [cGet t0 0, cGet t0 1]]).bind (fin false)).bind fun t2 =>
  (pUn .not t2).bind fun t3 =>
  some ((t3, [])) :=
  (G_eq rfl Tryz.func81 rfl rfl).trans (by kernel_rfl)
theorem g82 (a0 : A) : G 82 [a0] =
  (pCells 2 a0).bind fun t0 =>
  (C99_0 (cGet t0 0) (cGet t0 1) []).bind fun t1 =>
  (hR 1 t1 0).bind fun t2 =>
  (C100_0 t2).bind fun t3 =>
  (hR 1 t3 0).bind fun t4 =>
  some ((A.sl 1 t4, [])) :=
  (G_eq rfl Tryz.func82 rfl rfl).trans (by kernel_rfl)
theorem g83 (a0 a1 : A) : G 83 [a0, a1] =
  (pCells 2 a0).bind fun t0 =>
  (pBin .eql false (cGet t0 0) a1).bind fun t1 =>
  (pBool t1).bind fun t2 =>
  brn t2 (
    (pLenL (cGet t0 1)).bind fun t3 =>
    L83_0 a1 (vi 1) (cGet t0 1) t3 (vi 0)) (
    (pLenL (cGet t0 1)).bind fun t4 =>
    L83_0 a1 (vi 0) (cGet t0 1) t4 (vi 0)) :=
  (G_eq rfl Tryz.func83 rfl rfl).trans (by kernel_rfl)
theorem l83_0 (x0 x1 x2 x3 x4 : A) : L83_0 x0 x1 x2 x3 x4 =
  (pBin .lss false x4 x3).bind fun t5 =>
  (pBool t5).bind fun t6 =>
  brn t6 (
    (pIndexAddr 2 x2 x4).bind fun t7 =>
    (pLoadN 2 t7).bind fun t8 =>
    (pCells 2 t8).bind fun t9 =>
    ((G 83 [A.agg [cGet t9 0, cGet t9 1], x0]).bind (fin false)).bind fun t10 =>
    (pBin .add false x1 t10).bind fun t11 =>
    (pBin .add false x4 (vi 1)).bind fun t12 =>
    L83_0 x0 t11 x2 x3 t12) (
    some ((x1, []))) :=
  (H_eq Tryz.func83 rfl).trans (by kernel_rfl)
theorem g84 (a0 a1 : A) : G 84 [a0, a1] =
  (pCells 3 a0).bind fun t0 =>
  (pCells 2 a1).bind fun t1 =>
  ((G 56 [A.agg [cGet t1 0, cGet t1 1]]).bind (fin false)).bind fun t2 =>
  (pBool t2).bind fun t3 =>
  brn t3 (
    some ((cGet t0 2, []))) (
    ((G 86 [cGet t0 0, cGet t1 0]).bind (fin false)).bind fun t4 =>
    (pIndexAddr 1 (cGet t0 1) t4).bind fun t5 =>
    (pLoadP t5).bind fun t6 =>
    (pLenL (cGet t1 1)).bind fun t7 =>
    L84_0 t6 (cGet t1 1) t7 (vi 0) (cGet t0 0) (cGet t0 1) (cGet t0 2)) :=
  (G_eq rfl Tryz.func84 rfl rfl).trans (by kernel_rfl)
theorem l84_0 (x0 x1 x2 x3 x4 x5 x6 : A) : L84_0 x0 x1 x2 x3 x4 x5 x6 =
  (pBin .lss false x3 x2).bind fun t8 =>
  (pBool t8).bind fun t9 =>
  brn t9 (
    (pIndexAddr 2 x1 x3).bind fun t10 =>
    (pLoadN 2 t10).bind fun t11 =>
    (pCells 2 t11).bind fun t12 =>
    ((G 84 [A.agg [x4, x5, x6], A.agg [cGet t12 0, cGet t12 1]]).bind (fin false)).bind fun t13 =>
    (pBin .add false x0 t13).bind fun t14 =>
    (pBin .add false x3 (vi 1)).bind fun t15 =>
    L84_0 t14 x1 x2 t15 x4 x5 x6) (
    some ((x0, []))) :=
  (H_eq Tryz.func84 rfl).trans (by kernel_rfl)
theorem g85 (a0 : A) : G 85 [a0] =
  (pBin .geq false a0 (vy 65)).bind fun t0 =>
  (pG t0 true (some a0)).bind fun t1 =>
  (pG t0 true (pBin .leq false t1 (vy 90))).bind fun t2 =>
  (pPick t0 t2 (vb false)).bind fun t3 =>
  some ((t3, [])) :=
  (G_eq rfl Tryz.func85 rfl rfl).trans (by kernel_rfl)
theorem g86 (a0 a1 : A) : G 86 [a0, a1] =
  (pLenL a0).bind fun t0 =>
  L86_0 a0 a1 t0 (vi 0) :=
  (G_eq rfl Tryz.func86 rfl rfl).trans (by kernel_rfl)
theorem l86_0 (x0 x1 x2 x3 : A) : L86_0 x0 x1 x2 x3 =
  (pBin .lss false x3 x2).bind fun t1 =>
  (pBool t1).bind fun t2 =>
  brn t2 (
    (pIndexAddr 1 x0 x3).bind fun t3 =>
    (pLoadP t3).bind fun t4 =>
    (pBin .eql false x1 t4).bind fun t5 =>
    (pBool t5).bind fun t6 =>
    brn t6 (
      some ((x3, []))) (
      (pBin .add false x3 (vi 1)).bind fun t7 =>
      L86_0 x0 x1 x2 t7)) (
    some ((vi (-1), []))) :=
  (H_eq Tryz.func86 rfl).trans (by kernel_rfl)
theorem g87 (a0 a1 : A) : G 87 [a0, a1] =
  (pCells 3 a0).bind fun t0 =>
  L87_0 a1 (vi 0) (cGet t0 0) (cGet t0 1) (cGet t0 2) :=
  (G_eq rfl Tryz.func87 rfl rfl).trans (by kernel_rfl)
theorem l87_0 (x0 x1 x2 x3 x4 : A) : L87_0 x0 x1 x2 x3 x4 =
  (pLenL x2).bind fun t1 =>
  (pBin .lss false x1 t1).bind fun t2 =>
  (pBool t2).bind fun t3 =>
  brn t3 (
    (pIndexAddr 1 x2 x1).bind fun t4 =>
    (pLoadP t4).bind fun t5 =>
    (pBin .eql false t5 x0).bind fun t6 =>
    (pBool t6).bind fun t7 =>
    brn t7 (
      some ((x1, []))) (
      (pBin .add false x1 (vi 1)).bind fun t8 =>
      L87_0 x0 t8 x2 x3 x4)) (
    some ((vi (-1), []))) :=
  (H_eq Tryz.func87 rfl).trans (by kernel_rfl)
theorem g88 (a0 : A) : G 88 [a0] =
  (pCells 2 a0).bind fun t0 =>
  ((G 101 [A.sl 1 [], A.agg [cGet t0 0, cGet t0 1]]).bind (fin false)).bind fun t1 =>
  some ((t1, [])) :=
  (G_eq rfl Tryz.func88 rfl rfl).trans (by kernel_rfl)
theorem g89 (a0 a1 : A) : G 89 [a0, a1] =
  (pCells 2 a0).bind fun t0 =>
  (pBin .eql false (cGet t0 0) a1).bind fun t1 =>
  (pBool t1).bind fun t2 =>
  brn t2 (
    L89_0 a1 (vi 1) (vi 0) (cGet t0 0) (cGet t0 1)) (
    L89_0 a1 (vi 0) (vi 0) (cGet t0 0) (cGet t0 1)) :=
  (G_eq rfl Tryz.func89 rfl rfl).trans (by kernel_rfl)
theorem l89_0 (x0 x1 x2 x3 x4 : A) : L89_0 x0 x1 x2 x3 x4 =
  (pLenL x4).bind fun t3 =>
  (pBin .lss false x2 t3).bind fun t4 =>
  (pBool t4).bind fun t5 =>
  brn t5 (
    (pIndexAddr 2 x4 x2).bind fun t6 =>
    (pLoadN 2 t6).bind fun t7 =>
    ((G 89 [t7, x0]).bind (fin false)).bind fun t8 =>
    (pBin .add false x1 t8).bind fun t9 =>
    (pBin .add false x2 (vi 1)).bind fun t10 =>
    L89_0 x0 t9 t10 x3 x4) (
    some ((x1, []))) :=
  (H_eq Tryz.func89 rfl).trans (by kernel_rfl)
theorem g90 (a0 a1 : A) : G 90 [a0, a1] =
  (pCells 2 a0).bind fun t0 =>
  L90_0 a1 (vi 1) (vi 0) (cGet t0 0) (cGet t0 1) :=
  (G_eq rfl Tryz.func90 rfl rfl).trans (by kernel_rfl)
theorem l90_0 (x0 x1 x2 x3 x4 : A) : L90_0 x0 x1 x2 x3 x4 =
  (pLenL x4).bind fun t1 =>
  (pBin .lss false x2 t1).bind fun t2 =>
  (pG t2 true (some x1)).bind fun t3 =>
  (pG t2 true (some x0)).bind fun t4 =>
  (pG t2 true (pBin .leq false t3 t4)).bind fun t5 =>
  (pPick t2 t5 (vb false)).bind fun t6 =>
  (pBool t6).bind fun t7 =>
  brn t7 (
    (pIndexAddr 2 x4 x2).bind fun t8 =>
    (pLoadN 2 t8).bind fun t9 =>
    (pBin .sub false x0 x1).bind fun t10 =>
    ((G 90 [t9, t10]).bind (fin false)).bind fun t11 =>
    (pBin .add false x1 t11).bind fun t12 =>
    (pBin .add false x2 (vi 1)).bind fun t13 =>
    L90_0 x0 t12 t13 x3 x4) (
    some ((x1, []))) :=
  (H_eq Tryz.func90 rfl).trans (by kernel_rfl)
theorem g91 (a0 : A) : G 91 [a0] =
  (pCells 2 a0).bind fun t0 =>
  L91_0 (vi 0) (vi 0) (cGet t0 0) (cGet t0 1) :=
  (G_eq rfl Tryz.func91 rfl rfl).trans (by kernel_rfl)
theorem l91_0 (x0 x1 x2 x3 : A) : L91_0 x0 x1 x2 x3 =
  (pLenL x3).bind fun t1 =>
  (pBin .lss false x1 t1).bind fun t2 =>
  (pBool t2).bind fun t3 =>
  brn t3 (
    (pIndexAddr 2 x3 x1).bind fun t4 =>
    (pLoadN 2 t4).bind fun t5 =>
    ((G 91 [t5]).bind (fin false)).bind fun t6 =>
    ((G 102 [x0, t6]).bind (fin false)).bind fun t7 =>
    (pBin .add false x1 (vi 1)).bind fun t8 =>
    L91_0 t7 t8 x2 x3) (
    (pBin .add false x0 (vi 1)).bind fun t9 =>
    some ((t9, []))) :=
  (H_eq Tryz.func91 rfl).trans (by kernel_rfl)
theorem g92 (a0 : A) : G 92 [a0] =
  (pBin .geq false a0 (vy 97)).bind fun t0 =>
  (pG t0 true (some a0)).bind fun t1 =>
  (pG t0 true (pBin .leq false t1 (vy 122))).bind fun t2 =>
  (pPick t0 t2 (vb false)).bind fun t3 =>
  some ((t3, [])) :=
  (G_eq rfl Tryz.func92 rfl rfl).trans (by kernel_rfl)
theorem g93 (a0 : A) : G 93 [a0] =
  (pBin .geq false a0 (vy 48)).bind fun t0 =>
  (pG t0 true (some a0)).bind fun t1 =>
  (pG t0 true (pBin .leq false t1 (vy 57))).bind fun t2 =>
  (pPick t0 t2 (vb false)).bind fun t3 =>
  some ((t3, [])) :=
  (G_eq rfl Tryz.func93 rfl rfl).trans (by kernel_rfl)
theorem g94 : G 94 [] =
  some ((A.sl 1 [[sv [116, 114, 117, 101]], [sv [102, 97, 108, 115, 101]], [sv [116, 114, 117, 116, 104]], [sv [98, 111, 116, 104]], [sv [101, 105, 116, 104, 101, 114]], [sv [105, 102]], [sv [97, 108, 108]], [sv [115, 111, 109, 101]]], [])) :=
  (G_eq rfl Tryz.func94 rfl rfl).trans (by kernel_rfl)
theorem g95 (a0 : A) : G 95 [a0] =
  (pCells 2 a0).bind fun t0 =>
  (pLenL (cGet t0 1)).bind fun t1 =>
  L95_0 (vi 1) (cGet t0 1) t1 (vi 0) :=
  (G_eq rfl Tryz.func95 rfl rfl).trans (by kernel_rfl)
theorem l95_0 (x0 x1 x2 x3 : A) : L95_0 x0 x1 x2 x3 =
  (pBin .lss false x3 x2).bind fun t2 =>
  (pBool t2).bind fun t3 =>
  brn t3 (
    (pIndexAddr 2 x1 x3).bind fun t4 =>
    (pLoadN 2 t4).bind fun t5 =>
    (pCells 2 t5).bind fun t6 =>
    (pBin .gtr false x0 (vi 30)).bind fun t7 =>
    (pBool t7).bind fun t8 =>
    brn t8 (
      some ((x0, []))) (
      ((G 95 [A.agg [cGet t6 0, cGet t6 1]]).bind (fin false)).bind fun t9 =>
      (pBin .add false x0 t9).bind fun t10 =>
      (pBin .add false x3 (vi 1)).bind fun t11 =>
      L95_0 t10 x1 x2 t11)) (
    some ((x0, []))) :=
  (H_eq Tryz.func95 rfl).trans (by kernel_rfl)
theorem g96 (a0 : A) : G 96 [a0] =
  (pCells 2 a0).bind fun t0 =>
  (pLenL (cGet t0 1)).bind fun t1 =>
  L96_0 (vi 0) (cGet t0 1) t1 (vi 0) :=
  (G_eq rfl Tryz.func96 rfl rfl).trans (by kernel_rfl)
theorem l96_0 (x0 x1 x2 x3 : A) : L96_0 x0 x1 x2 x3 =
  (pBin .lss false x3 x2).bind fun t2 =>
  (pBool t2).bind fun t3 =>
  brn t3 (
    (pIndexAddr 2 x1 x3).bind fun t4 =>
    (pLoadN 2 t4).bind fun t5 =>
    (pCells 2 t5).bind fun t6 =>
    ((G 96 [A.agg [cGet t6 0, cGet t6 1]]).bind (fin false)).bind fun t7 =>
    (pMax x0 t7).bind fun t8 =>
    (pBin .add false x3 (vi 1)).bind fun t9 =>
    L96_0 t8 x1 x2 t9) (
    (pBin .add false x0 (vi 1)).bind fun t10 =>
    some ((t10, []))) :=
  (H_eq Tryz.func96 rfl).trans (by kernel_rfl)
theorem g97 (a0 : A) : G 97 [a0] =
  (pLenS a0).bind fun t0 =>
  L97_0 a0 t0 (vi 0) :=
  (G_eq rfl Tryz.func97 rfl rfl).trans (by kernel_rfl)
theorem l97_0 (x0 x1 x2 : A) : L97_0 x0 x1 x2 =
  (pBin .lss false x2 x1).bind fun t1 =>
  (pBool t1).bind fun t2 =>
  brn t2 (
    (pBin .eql false x2 (vi 0)).bind fun t3 =>
    (pG t3 true (some x0)).bind fun t4 =>
    (pG t3 true (some x2)).bind fun t5 =>
    (pG t3 true (pIndexS t4 t5)).bind fun t6 =>
    (pG t3 true ((G 85 [t6]).bind (fin false))).bind fun t7 =>
    (pG t3 true (pUn .not t7)).bind fun t8 =>
    (pPick t3 t8 (vb false)).bind fun t9 =>
    (pG t9 false (some x2)).bind fun t10 =>
    (pG t9 false (pBin .gtr false t10 (vi 0))).bind fun t11 =>
    (pG t9 false (some t11)).bind fun t12 =>
    (pG t12 true (some x0)).bind fun t13 =>
    (pG t12 true (some x2)).bind fun t14 =>
    (pG t12 true (pIndexS t13 t14)).bind fun t15 =>
    (pG t12 true ((G 92 [t15]).bind (fin false))).bind fun t16 =>
    (pG t12 true (pUn .not t16)).bind fun t17 =>
    (pG t9 false (pPick t12 t17 (vb false))).bind fun t18 =>
    (pG t9 false (some t18)).bind fun t19 =>
    (pG t19 true (some x0)).bind fun t20 =>
    (pG t19 true (some x2)).bind fun t21 =>
    (pG t19 true (pIndexS t20 t21)).bind fun t22 =>
    (pG t19 true ((G 93 [t22]).bind (fin false))).bind fun t23 =>
    (pG t19 true (pUn .not t23)).bind fun t24 =>
    (pG t9 false (pPick t19 t24 (vb false))).bind fun t25 =>
    (pPick t9 (vb true) t25).bind fun t26 =>
    (pBool t26).bind fun t27 =>
    brn t27 (
      some ((vb false, []))) (
      (pBin .add false x2 (vi 1)).bind fun t28 =>
      L97_0 x0 x1 t28)) (
    (pLenS x0).bind fun t29 =>
    ((G 75 [t29, vi 1, vi 4]).bind (fin false)).bind fun t30 =>
    some ((t30, []))) :=
  (H_eq Tryz.func97 rfl).trans (by kernel_rfl)
theorem g98 (a0 : A) : G 98 [a0] =
  (pCells 2 a0).bind fun t0 =>
  ((G 80 [A.agg [cGet t0 0, cGet t0 1]]).bind (fin false)).bind fun t1 =>
  (pUn .not t1).bind fun t2 =>
  some ((t2, [])) :=
  (G_eq rfl Tryz.func98 rfl rfl).trans (by kernel_rfl)
theorem c99_0 (x0 x1 : A) (r0 : List (List A)) : C99_0 x0 x1 r0 =
  brn (okA x0) (
    brn (okA x1) (
      (pLenL x1).bind fun t0 =>
      (pBin .eql false t0 (vi 0)).bind fun t1 =>
      (pWant t1 true).bind fun t2 =>
      (pG t1 true ((G 56 [A.agg [x0, x1]]).bind (fin false))).bind fun t3 =>
      (pPick t1 t3 (vb false)).bind fun t4 =>
      (pBool t4).bind fun t5 =>
      brn t5 (
        ((G 77 [A.sl 1 r0, x0]).bind (fin true)).bind fun t6 =>
        (pUn .not t6).bind fun t7 =>
        (pBool t7).bind fun t8 =>
        brn t8 (
          brn (okA x0) (
            brn (pFit ((rLenN r0) + (rLenN [[x0]])) 16) (
              some ((A.top, [A.sl 1 (rApp r0 [[x0]])]))) (
              none)) (
            none)) (
          some ((A.top, [A.sl 1 r0])))) (
        (pLenL x1).bind fun t9 =>
        L99c0_0 x1 t9 (vi 0) r0)) (
      none)) (
    none) :=
  (V_eq rfl Tryz.func99 rfl rfl).trans (by kernel_rfl)
theorem l99c0_0 (x0 x1 x2 : A) (r0 : List (List A)) : L99c0_0 x0 x1 x2 r0 =
  (pBin .lss false x2 x1).bind fun t10 =>
  (pBool t10).bind fun t11 =>
  brn t11 (
    (pIndexAddr 2 x0 x2).bind fun t12 =>
    (pLoadN 2 t12).bind fun t13 =>
    (pCells 2 t13).bind fun t14 =>
    (C99_0 (cGet t14 0) (cGet t14 1) r0).bind fun t15 =>
    (hR 1 t15 0).bind fun t16 =>
    (pBin .add false x2 (vi 1)).bind fun t17 =>
    L99c0_1 x0 x1 t17 t16) (
    some ((A.top, [A.sl 1 r0]))) :=
  (H_eq Tryz.func99 rfl).trans (by kernel_rfl)
theorem l99c0_1 (x0 x1 x2 : A) (r0 : List (List A)) : L99c0_1 x0 x1 x2 r0 =
  (pBin .lss false x2 x1).bind fun t18 =>
  (pBool t18).bind fun t19 =>
  brn t19 (
    (pIndexAddr 2 x0 x2).bind fun t20 =>
    (pLoadN 2 t20).bind fun t21 =>
    (pCells 2 t21).bind fun t22 =>
    (C99_0 (cGet t22 0) (cGet t22 1) r0).bind fun t23 =>
    (hR 1 t23 0).bind fun t24 =>
    (pBin .add false x2 (vi 1)).bind fun t25 =>
    L99c0_1 x0 x1 t25 t24) (
    some ((A.top, [A.sl 1 r0]))) :=
  (H_eq Tryz.func99 rfl).trans (by kernel_rfl)
theorem c100_0 (r0 : List (List A)) : C100_0 r0 = Go.Proofs.YtbikhinddomhpaaGreat.Abs.sortX [V.row 0] [.row 1 r0] :=
  X_eq rfl
theorem g101 (a0 a1 : A) : G 101 [a0, a1] =
  (pCells 2 a1).bind fun t0 =>
  ((G 43 [cGet t0 0]).bind (fin false)).bind fun t1 =>
  (pBool t1).bind fun t2 =>
  brn t2 (
    ((G 105 [a0, cGet t0 0]).bind (fin false)).bind fun t3 =>
    some ((t3, []))) (
    L101_0 a0 (vi 0) (cGet t0 0) (cGet t0 1)) :=
  (G_eq rfl Tryz.func101 rfl rfl).trans (by kernel_rfl)
theorem l101_0 (x0 x1 x2 x3 : A) : L101_0 x0 x1 x2 x3 =
  (pLenL x3).bind fun t4 =>
  (pBin .lss false x1 t4).bind fun t5 =>
  (pBool t5).bind fun t6 =>
  brn t6 (
    (pIndexAddr 2 x3 x1).bind fun t7 =>
    (pLoadN 2 t7).bind fun t8 =>
    ((G 101 [x0, t8]).bind (fin false)).bind fun t9 =>
    (pBin .add false x1 (vi 1)).bind fun t10 =>
    L101_0 t9 t10 x2 x3) (
    some ((x0, []))) :=
  (H_eq Tryz.func101 rfl).trans (by kernel_rfl)
theorem g102 (a0 a1 : A) : G 102 [a0, a1] =
  (pBin .gtr false a0 a1).bind fun t0 =>
  (pBool t0).bind fun t1 =>
  brn t1 (
    some ((a0, []))) (
    some ((a1, []))) :=
  (G_eq rfl Tryz.func102 rfl rfl).trans (by kernel_rfl)
theorem g105 (a0 a1 : A) : G 105 [a0, a1] =
  L105_0 a0 a1 (vi 0) :=
  (G_eq rfl Tryz.func105 rfl rfl).trans (by kernel_rfl)
theorem l105_0 (x0 x1 x2 : A) : L105_0 x0 x1 x2 =
  (pLenL x0).bind fun t0 =>
  (pBin .lss false x2 t0).bind fun t1 =>
  (pG t1 true (some x0)).bind fun t2 =>
  (pG t1 true (some x2)).bind fun t3 =>
  (pG t1 true (pIndexAddr 1 t2 t3)).bind fun t4 =>
  (pG t1 true (pLoadP t4)).bind fun t5 =>
  (pG t1 true (some x1)).bind fun t6 =>
  (pG t1 true (pBin .lss false t5 t6)).bind fun t7 =>
  (pPick t1 t7 (vb false)).bind fun t8 =>
  (pBool t8).bind fun t9 =>
  brn t9 (
    (pBin .add false x2 (vi 1)).bind fun t10 =>
    L105_0 x0 x1 t10) (
    (pLenL x0).bind fun t11 =>
    (pBin .lss false x2 t11).bind fun t12 =>
    (pG t12 true (some x0)).bind fun t13 =>
    (pG t12 true (some x2)).bind fun t14 =>
    (pG t12 true (pIndexAddr 1 t13 t14)).bind fun t15 =>
    (pG t12 true (pLoadP t15)).bind fun t16 =>
    (pG t12 true (some x1)).bind fun t17 =>
    (pG t12 true (pBin .eql false t16 t17)).bind fun t18 =>
    (pPick t12 t18 (vb false)).bind fun t19 =>
    (pBool t19).bind fun t20 =>
    brn t20 (
      some ((x0, []))) (
      (pSlice 1 x0 none (some x2)).bind fun t21 =>
      (pRows 1 t21).bind fun t22 =>
      brn (pFit (rLenN t22) 16) (
        brn (okA x1) (
          brn (pFit ((rLenN t22) + (rLenN [[x1]])) 16) (
            (pSlice 1 x0 (some x2) none).bind fun t23 =>
            (pRows 1 t23).bind fun t24 =>
            brn (pFit ((rLenN (rApp t22 [[x1]])) + (rLenN t24)) 16) (
              some ((A.sl 1 (rApp (rApp t22 [[x1]]) t24), []))) (
              none)) (
            none)) (
          none)) (
        none))) :=
  (H_eq Tryz.func105 rfl).trans (by kernel_rfl)
end Go.Proofs.YtbikhinddomhpaaGreat
