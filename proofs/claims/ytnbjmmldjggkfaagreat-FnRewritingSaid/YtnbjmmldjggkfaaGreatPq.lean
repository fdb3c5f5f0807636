/- WRITTEN BY A PROGRAM (gen.py): what functions come to, as equations. -/
import Derived.Test.YtnbjmmldjggkfaaGreatK
import Derived.KernelRfl
set_option linter.unusedVariables false
namespace Go.Proofs.YtnbjmmldjggkfaaGreat
open Go Go.RowKit Go.Proofs.YtnbjmmldjggkfaaGreat.Abs
abbrev vT : V := V.top
noncomputable def L6_0 (x0 x1 x2 x3 x4 x5 x6 : A) : Option Out := MM K (.head 6 [1, 1, 1, 1, 1, 1, 1, 1, 0, 1, 0] [V.d x0, vT, vT, V.ptr 0 0, V.d x1, V.ptr 1 0, vT, vT, vT, vT, vT, vT, vT, vT, V.d x2, vT, vT, vT, vT, vT, vT, vT, vT, vT, vT, vT, vT, vT, vT, vT, vT, vT, vT, vT, vT, vT, vT, vT, vT, vT, vT, vT, vT, vT, vT, vT, vT, vT, vT, vT, vT, vT, vT, vT, vT, vT, vT, vT, vT, vT, vT, vT, vT, vT, vT, vT, vT, vT, vT, vT, vT, vT, vT, vT, vT, vT, vT, vT, vT, vT, vT, vT, vT, vT, vT, vT, vT, vT, vT, vT, vT, vT, vT, vT, vT, vT, vT, vT, vT, vT, vT, vT, vT, vT, vT, vT, vT, vT, vT, vT, vT, vT, vT, vT, vT, vT, vT, vT, vT, vT, vT, vT, vT, vT, vT, vT, vT, vT, vT] [.box [V.d x3, V.d x4], .box [V.d x5, V.d x6]] none)
noncomputable def L28_0 (x0 x1 x2 x3 x4 : A) : Option Out := MM K (.head 28 [1, 1, 0, 1, 0] [vT, vT, V.ptr 0 0, V.ptr 1 0, vT, V.d x0, vT, vT, vT, vT, vT, vT, vT, vT, vT, vT, vT, vT, vT, vT, vT, vT, vT, vT, vT, vT, vT, vT, vT, vT, vT, vT, vT, vT, vT, vT, vT, vT, vT] [.box [V.d x1, V.d x2], .box [V.d x3, V.d x4]] none)
noncomputable def C29_0 (x0 x1 : A) (r0 r1 : List (List A)) : Option Out := MM K (.callv 29 [V.agg [V.row 0, V.row 1], V.d x0, V.d x1] [.row 1 r0, .row 1 r1])
noncomputable def L31_0 (x0 x1 x2 x3 : A) : Option Out := MM K (.head 31 [1, 0, 1, 0] [V.d x0, V.d x1, V.d x2, vT, vT, vT, vT, V.d x3, vT, vT, vT, vT, vT, vT, vT, vT, vT, vT, vT, vT, vT, vT, vT, vT, vT] [] none)
noncomputable def L33_0 (x0 x1 x2 x3 x4 x5 x6 : A) (r0 : List (List A)) : Option Out := MM K (.head 33 [1, 1, 1, 0, 1, 0] [V.d x0, V.d x1, vT, vT, vT, vT, V.ptr 0 0, V.ptr 1 0, vT, V.row 2, V.d x2, vT, vT, vT, vT, vT, vT, vT, vT, vT, vT, vT, vT, vT, vT, vT, vT, vT, vT, vT, vT, vT, vT, vT, vT, vT, vT, vT, vT, vT, vT, vT, vT, vT, vT, vT, vT, vT, vT, vT, vT, vT, vT, vT, vT, vT, vT, vT, vT, vT, vT, vT, vT, vT] [.box [V.d x3, V.d x4], .box [V.d x5, V.d x6], .row 1 r0] none)
noncomputable def L34_0 (x0 x1 x2 x3 x4 x5 x6 : A) (r0 : List (List A)) : Option Out := MM K (.head 34 [1, 1, 0, 1, 0] [V.d x0, V.d x1, vT, vT, vT, vT, V.ptr 0 0, V.ptr 1 0, vT, V.row 2, V.d x2, vT, vT, vT, vT, vT, vT, vT, vT, vT, vT, vT, vT, vT, vT, vT, vT, vT, vT, vT, vT, vT, vT, vT, vT, vT, vT, vT, vT, vT, vT, vT, vT, vT, vT, vT, vT, vT, vT, vT, vT, vT, vT, vT] [.box [V.d x3, V.d x4], .box [V.d x5, V.d x6], .row 1 r0] none)
noncomputable def L37_0 (x0 x1 x2 x3 : A) : Option Out := MM K (.head 37 [1, 1, 0, 1, 0] [vT, V.ptr 0 0, vT, V.d x0, vT, vT, vT, vT, vT, vT, vT, vT, vT, vT, vT, vT, vT, vT, vT, vT, vT, vT, vT, vT, vT, vT, vT, vT, vT, vT, vT, vT, vT, vT, vT, vT, vT, vT, vT, vT, vT, vT, vT, vT, vT, vT, vT, vT, vT, vT, vT, vT, vT, vT, vT, vT, vT, vT, vT, vT, vT] [.box [V.d x1, V.d x2, V.d x3]] none)
noncomputable def L40_0 (x0 x1 x2 x3 x4 : A) (r0 r1 : List (List A)) : Option Out := MM K (.head 40 [1, 1, 0, 1, 0] [vT, V.ptr 0 0, V.ptr 1 0, V.ptr 2 0, V.d x0, vT, vT, vT, vT, vT, vT, vT, vT, vT, vT, vT, vT, vT, vT, vT, vT, vT, vT, vT, vT, vT, vT] [.box [V.d x1, V.d x2], .box [V.d x3, V.row 3], .box [V.d x4, V.row 4], .row 2 r0, .row 2 r1] none)
noncomputable def C40_0 (x0 x1 : A) : Option Out := MM K (.callv 40 [V.agg [V.d x0, V.d x1]] [])
noncomputable def L40c0_0 (x0 x1 x2 x3 x4 : A) (r0 r1 : List (List A)) : Option Out := MM K (.head 40 [1, 1, 0, 1, 0] [vT, V.ptr 0 0, V.ptr 1 0, V.ptr 2 0, V.d x0, vT, vT, vT, vT, vT, vT, vT, vT, vT, vT, vT, vT, vT, vT, vT, vT, vT, vT, vT, vT, vT, vT] [.box [V.d x1, V.d x2], .box [V.d x3, V.row 3], .box [V.d x4, V.row 4], .row 2 r0, .row 2 r1] (some []))
noncomputable def C46_0 (x0 x1 : A) : Option Out := MM K (.callv 46 [V.agg [V.d x0, V.d x1]] [])
noncomputable def L54_0 (x0 x1 : A) : Option Out := MM K (.head 54 [1, 0, 1, 0] [V.d x0, vT, vT, V.d x1, vT, vT, vT, vT, vT, vT, vT, vT, vT, vT, vT, vT, vT, vT, vT] [] none)
noncomputable def L55_0 (x0 x1 x2 x3 x4 x5 : A) (r0 : List (List A)) : Option Out := MM K (.head 55 [1, 1, 1, 0] [vT, V.d x0, V.d x1, vT, vT, vT, V.ptr 0 0, vT, vT, V.ptr 1 0, V.d x2, vT, vT, vT, vT, vT, vT, vT, vT, vT, vT, vT, vT, vT, vT, vT, vT, vT, vT, vT, vT, vT, vT, vT, vT, vT, vT] [.box [V.d x3, V.row 2], .box [V.d x4, V.d x5], .row 2 r0] none)
noncomputable def L56_0 (x0 x1 x2 x3 x4 : A) : Option Out := MM K (.head 56 [1, 1, 0, 1, 0] [vT, vT, V.ptr 0 0, V.ptr 1 0, vT, V.d x0, vT, vT, vT, vT, vT, vT, vT, vT, vT, vT, vT, vT, vT, vT, vT, vT, vT, vT, vT, vT, vT, vT, vT, vT, vT, vT, vT, vT, vT, vT, vT, vT, vT] [.box [V.d x1, V.d x2], .box [V.d x3, V.d x4]] none)
noncomputable def L63_0 (x0 x1 x2 x3 x4 x5 : A) (r0 : List (List A)) : Option Out := MM K (.head 63 [1, 1, 1, 0] [vT, V.d x0, V.d x1, vT, vT, vT, V.ptr 0 0, vT, vT, V.ptr 1 0, V.d x2, vT, vT, vT, vT, vT, vT, vT, vT, vT, vT, vT, vT, vT, vT, vT, vT, vT, vT, vT, vT, vT, vT, vT, vT, vT, vT] [.box [V.d x3, V.row 2], .box [V.d x4, V.d x5], .row 2 r0] none)
noncomputable def C65_0 (x0 x1 x2 : A) : Option Out := MM K (.callv 65 [V.ptr 0 0] [.box [V.d x0, V.d x1, V.d x2]])
noncomputable def L65c0_0 (x0 x1 x2 x3 : A) (r0 : List (List A)) : Option Out := MM K (.head 65 [1, 1, 0, 1, 0] [V.ptr 0 0, vT, vT, V.row 1, V.d x0, vT, vT, vT, vT, vT, vT, vT, vT, vT, vT, vT, vT, vT, vT, vT, vT, vT, vT, vT, vT, vT, vT, vT, vT, vT, vT, vT, vT, vT, vT, vT, vT, vT, vT, vT, vT, vT, vT] [.box [V.d x1, V.d x2, V.d x3], .row 2 r0] (some [0]))
noncomputable def L65c0_1 (x0 x1 x2 : A) (r0 : List (List A)) : Option Out := MM K (.head 65 [1, 1, 1, 0, 1, 0, 0] [V.ptr 0 0, vT, vT, V.row 1, vT, vT, vT, vT, vT, vT, vT, vT, vT, vT, vT, vT, vT, vT, vT, vT, vT, vT, vT, vT, vT, vT, vT, vT, vT, vT, vT, vT, vT, vT, vT, vT, vT, vT, vT, vT, vT, vT, vT] [.box [V.d x0, V.d x1, V.d x2], .row 2 r0] (some [0]))
noncomputable def C66_0 (x0 x1 x2 : A) : Option Out := MM K (.callv 66 [V.ptr 0 0] [.box [V.d x0, V.d x1, V.d x2]])
noncomputable def C67_0 (x0 x1 x2 x3 : A) : Option Out := MM K (.callv 67 [V.ptr 0 0, V.d x0] [.box [V.d x1, V.d x2, V.d x3]])
noncomputable def L68_0 (x0 x1 x2 x3 x4 x5 : A) (r0 r1 : List (List A)) : Option Out := MM K (.head 68 [1, 1, 1, 0, 1, 0] [vT, vT, V.ptr 0 0, V.ptr 1 0, V.ptr 2 0, vT, V.ptr 3 0, V.d x0, vT, vT, vT, vT, vT, vT, vT, vT, vT, vT, vT, vT, vT, vT, vT, vT, vT, vT, vT, vT, vT, vT, vT, vT, vT, vT, vT, vT, vT, vT, vT, vT, vT, vT, vT, vT, vT, vT, vT, vT, vT, vT] [.box [V.d x1], .box [V.d x2, V.d x3], .box [V.d x4, V.row 4], .box [V.d x5, V.row 5], .row 2 r0, .row 2 r1] none)
noncomputable def C69_0 (x0 x1 x2 : A) : Option Out := MM K (.callv 69 [V.ptr 0 0] [.box [V.d x0, V.d x1, V.d x2]])
noncomputable def L69c0_0 (x0 x1 x2 x3 x4 : A) (r0 r1 r2 : List (List A)) : Option Out := MM K (.head 69 [1, 1, 0, 1, 0] [V.ptr 0 0, vT, V.ptr 1 0, V.ptr 2 0, vT, vT, vT, V.row 3, V.d x0, V.d x1, vT, vT, vT, vT, vT, vT, vT, vT, vT, vT, vT, vT] [.box [V.d x2, V.d x3, V.d x4], .box [V.row 4], .box [V.row 5], .row 1 r0, .row 3 r1, .row 3 r2] (some [0]))
noncomputable def C70_0 (x0 x1 x2 : A) : Option Out := MM K (.callv 70 [V.ptr 0 0] [.box [V.d x0, V.d x1, V.d x2]])
noncomputable def L71_0 (x0 x1 x2 x3 : A) (r0 : List (List A)) : Option Out := MM K (.head 71 [1, 1, 0, 1, 0] [V.d x0, V.d x1, vT, vT, vT, V.ptr 0 0, vT, V.row 1, V.d x2, vT, vT, vT, vT, vT, vT, vT, vT, vT, vT, vT, vT, vT, vT, vT, vT, vT, vT, vT, vT, vT, vT, vT, vT, vT, vT, vT, vT, vT, vT, vT, vT, vT, vT, vT, vT, vT, vT, vT, vT, vT, vT, vT, vT, vT, vT, vT, vT, vT, vT, vT, vT, vT, vT, vT, vT, vT, vT, vT, vT, vT, vT, vT, vT, vT, vT, vT, vT, vT, vT, vT, vT, vT, vT, vT, vT, vT, vT, vT, vT, vT, vT, vT, vT, vT, vT, vT, vT, vT, vT, vT, vT] [.box [V.d x3], .row 1 r0] none)
noncomputable def L71_1 (x0 x1 x2 x3 x4 : A) (r0 : List (List A)) : Option Out := MM K (.head 71 [1, 1, 1, 1, 0, 1, 0] [V.d x0, V.d x1, vT, vT, vT, V.ptr 0 0, vT, V.row 1, vT, V.d x2, V.d x3, vT, vT, vT, vT, vT, vT, vT, vT, vT, vT, vT, vT, vT, vT, vT, vT, vT, vT, vT, vT, vT, vT, vT, vT, vT, vT, vT, vT, vT, vT, vT, vT, vT, vT, vT, vT, vT, vT, vT, vT, vT, vT, vT, vT, vT, vT, vT, vT, vT, vT, vT, vT, vT, vT, vT, vT, vT, vT, vT, vT, vT, vT, vT, vT, vT, vT, vT, vT, vT, vT, vT, vT, vT, vT, vT, vT, vT, vT, vT, vT, vT, vT, vT, vT, vT, vT, vT, vT, vT, vT] [.box [V.d x4], .row 1 r0] none)
noncomputable def L71_2 (x0 x1 x2 x3 x4 : A) (r0 : List (List A)) : Option Out := MM K (.head 71 [1, 1, 1, 1, 1, 0, 1, 0] [V.d x0, V.d x1, vT, vT, vT, V.ptr 0 0, vT, V.row 1, vT, V.d x2, vT, V.d x3, vT, vT, vT, vT, vT, vT, vT, vT, vT, vT, vT, vT, vT, vT, vT, vT, vT, vT, vT, vT, vT, vT, vT, vT, vT, vT, vT, vT, vT, vT, vT, vT, vT, vT, vT, vT, vT, vT, vT, vT, vT, vT, vT, vT, vT, vT, vT, vT, vT, vT, vT, vT, vT, vT, vT, vT, vT, vT, vT, vT, vT, vT, vT, vT, vT, vT, vT, vT, vT, vT, vT, vT, vT, vT, vT, vT, vT, vT, vT, vT, vT, vT, vT, vT, vT, vT, vT, vT, vT] [.box [V.d x4], .row 1 r0] none)
noncomputable def L71_3 (x0 x1 x2 x3 x4 x5 x6 : A) (r0 r1 r2 : List (List A)) : Option Out := MM K (.head 71 [1, 1, 1, 1, 1, 0, 1, 0, 0, 1, 0, 0, 1, 1, 0, 1, 0] [V.d x0, V.d x1, vT, vT, vT, V.ptr 0 0, vT, V.row 1, vT, V.d x2, vT, V.d x3, V.ptr 2 0, V.d x4, V.d x5, vT, vT, vT, vT, vT, vT, vT, vT, vT, vT, vT, vT, vT, vT, vT, vT, vT, vT, vT, vT, vT, vT, vT, vT, vT, vT, vT, vT, vT, vT, vT, vT, vT, vT, vT, vT, vT, vT, vT, vT, vT, vT, vT, vT, vT, vT, vT, vT, vT, vT, vT, vT, vT, vT, vT, vT, vT, vT, vT, vT, vT, vT, vT, vT, vT, vT, vT, vT, vT, vT, vT, vT, vT, vT, vT, vT, vT, vT, vT, vT, vT, vT, vT, vT, vT, vT] [.box [V.d x6], .row 1 r0, .box [V.row 3, V.row 4], .row 1 r1, .row 1 r2] none)
noncomputable def L71_4 (x0 x1 x2 x3 x4 x5 x6 : A) (r0 r1 r2 : List (List A)) : Option Out := MM K (.head 71 [1, 1, 1, 1, 1, 0, 1, 0, 0, 1, 0, 0, 1, 1, 1, 1, 0, 1, 0] [V.d x0, V.d x1, vT, vT, vT, V.ptr 0 0, vT, V.row 1, vT, V.d x2, vT, V.d x3, V.ptr 2 0, vT, vT, V.d x4, V.d x5, vT, vT, vT, vT, vT, vT, vT, vT, vT, vT, vT, vT, vT, vT, vT, vT, vT, vT, vT, vT, vT, vT, vT, vT, vT, vT, vT, vT, vT, vT, vT, vT, vT, vT, vT, vT, vT, vT, vT, vT, vT, vT, vT, vT, vT, vT, vT, vT, vT, vT, vT, vT, vT, vT, vT, vT, vT, vT, vT, vT, vT, vT, vT, vT, vT, vT, vT, vT, vT, vT, vT, vT, vT, vT, vT, vT, vT, vT, vT, vT, vT, vT, vT, vT] [.box [V.d x6], .row 1 r0, .box [V.row 3, V.row 4], .row 1 r1, .row 1 r2] none)
noncomputable def L74_0 (x0 x1 x2 x3 : A) : Option Out := MM K (.head 74 [1, 0, 1, 0] [vT, V.d x0, V.ptr 0 0, vT, vT, V.d x1, vT, vT, vT, vT, vT, vT, vT, vT, vT, vT, vT, vT, vT, vT, vT, vT, vT, vT, vT, vT] [.box [V.d x2, V.d x3]] none)
noncomputable def L75_0 (x0 x1 x2 x3 x4 : A) : Option Out := MM K (.head 75 [1, 1, 0, 1, 0] [V.d x0, V.d x1, V.d x2, vT, vT, vT, vT, V.d x3, V.d x4, vT, vT, vT, vT, vT, vT, vT, vT, vT, vT, vT, vT, vT, vT, vT, vT, vT, vT, vT, vT, vT, vT, vT, vT, vT, vT, vT, vT, vT, vT, vT, vT, vT, vT, vT, vT, vT, vT, vT, vT, vT, vT, vT] [] none)
noncomputable def L75_1 (x0 x1 x2 x3 : A) : Option Out := MM K (.head 75 [1, 1, 1, 0, 1, 0] [V.d x0, vT, V.d x1, vT, vT, vT, vT, V.d x2, vT, V.d x3, vT, vT, vT, vT, vT, vT, vT, vT, vT, vT, vT, vT, vT, vT, vT, vT, vT, vT, vT, vT, vT, vT, vT, vT, vT, vT, vT, vT, vT, vT, vT, vT, vT, vT, vT, vT, vT, vT, vT, vT, vT, vT] [] none)
noncomputable def L77_0 (x0 x1 : A) : Option Out := MM K (.head 77 [1, 1, 1, 0, 1, 0] [V.d x0, vT, vT, V.d x1, vT, vT, vT, vT, vT, vT, vT, vT, vT, vT, vT, vT, vT, vT, vT, vT, vT, vT, vT, vT, vT, vT, vT, vT, vT, vT, vT, vT, vT, vT, vT, vT, vT, vT, vT, vT, vT, vT, vT, vT, vT] [] none)
noncomputable def L78_0 (x0 x1 x2 : A) : Option Out := MM K (.head 78 [1, 0, 1, 0] [V.d x0, V.d x1, vT, vT, vT, V.d x2, vT, vT, vT, vT, vT, vT, vT, vT, vT, vT, vT, vT] [] none)
noncomputable def L79_0 (x0 x1 x2 x3 x4 x5 : A) : Option Out := MM K (.head 79 [1, 1, 0, 1, 0] [vT, vT, V.ptr 0 0, V.ptr 1 0, vT, V.d x0, vT, vT, vT, vT, vT, vT, vT, vT, vT, vT, vT, vT, vT, vT, vT, vT, vT, vT, vT, vT, vT, vT, vT, vT, vT, vT] [.box [V.d x1, V.d x2, V.d x3], .box [V.d x4, V.d x5]] none)
noncomputable def L80_0 (x0 x1 x2 x3 x4 x5 : A) : Option Out := MM K (.head 80 [1, 1, 0, 1, 0] [vT, vT, V.ptr 0 0, V.ptr 1 0, vT, V.d x0, V.d x1, vT, vT, vT, vT, vT, vT, vT, vT, vT, vT, vT, vT, vT, vT, vT, vT, vT, vT, vT, vT, vT] [.box [V.d x2, V.d x3], .box [V.d x4, V.d x5]] none)
noncomputable def L81_0 (x0 x1 x2 x3 x4 x5 x6 : A) : Option Out := MM K (.head 81 [1, 1, 1, 0, 1, 0] [vT, vT, V.ptr 0 0, V.ptr 1 0, vT, V.d x0, V.d x1, vT, vT, vT, vT, vT, vT, vT, vT, vT, vT, vT, vT, vT, vT, vT, vT, vT, vT, vT, vT, vT, vT, vT, vT, vT, vT, vT, vT, vT, vT, vT] [.box [V.d x2, V.d x3, V.d x4], .box [V.d x5, V.d x6]] none)
noncomputable def L82_0 (x0 x1 : A) : Option Out := MM K (.head 82 [1, 1, 0, 1, 0] [V.d x0, vT, vT, V.d x1, vT, vT, vT, vT, vT, vT, vT, vT, vT, vT, vT, vT, vT, vT, vT, vT, vT, vT, vT, vT, vT, vT, vT, vT, vT] [] none)
noncomputable def L84_0 (x0 x1 x2 x3 x4 : A) : Option Out := MM K (.head 84 [1, 0, 1, 0] [vT, vT, V.ptr 0 0, V.ptr 1 0, vT, V.d x0, vT, vT, vT, vT, vT, vT, vT, vT, vT, vT, vT, vT, vT, vT, vT, vT, vT, vT, vT, vT] [.box [V.d x1, V.d x2], .box [V.d x3, V.d x4]] none)
noncomputable def L86_0 (x0 x1 x2 : A) : Option Out := MM K (.head 86 [1, 0, 1, 0] [V.d x0, vT, vT, vT, vT, V.d x1, V.d x2, vT, vT, vT, vT, vT, vT, vT, vT, vT, vT, vT, vT, vT, vT, vT, vT, vT, vT, vT, vT, vT, vT, vT, vT, vT, vT, vT, vT, vT, vT, vT, vT, vT, vT, vT, vT, vT, vT, vT, vT, vT] [] none)
noncomputable def C89_0 (x0 : A) : Option Out := MM K (.callv 89 [V.d x0] [])
noncomputable def L89c0_0 (x0 x1 x2 : A) (r0 : List (List A)) : Option Out := MM K (.head 89 [1, 1, 1, 0, 1, 0] [vT, vT, vT, V.row 0, vT, vT, vT, vT, vT, vT, vT, vT, V.d x0, V.d x1, V.d x2, vT, vT, vT, vT, vT, vT, vT, vT, vT, vT, vT] [.row 2 r0] (some []))
noncomputable def L92_0 (x0 x1 x2 x3 x4 x5 x6 x7 x8 x9 : A) : Option Out := MM K (.head 92 [1, 0, 1, 0] [vT, vT, vT, V.ptr 0 0, V.ptr 1 0, V.ptr 2 0, vT, vT, vT, vT, vT, vT, vT, vT, vT, V.d x0, V.d x1, V.d x2, vT, vT, vT, vT, vT, vT, vT, vT, vT, vT, vT, vT, vT, vT, vT, vT, vT, vT, vT, vT, vT, vT, vT, vT, vT, vT, vT, vT, vT, vT, vT, vT, vT, vT, vT, vT, vT, vT, vT, vT, vT, vT, vT, vT, vT, vT, vT, vT, vT] [.box [V.d x3, V.d x4, V.d x5], .box [V.d x6, V.d x7], .box [V.d x8, V.d x9]] none)
noncomputable def L95_0 (x0 x1 x2 : A) : Option Out := MM K (.head 95 [1, 1, 1, 0, 1, 0] [vT, V.ptr 0 0, vT, V.d x0, vT, vT, vT, vT, vT, vT, vT, vT, vT, vT, vT, vT, vT, vT, vT, vT, vT, vT, vT, vT, vT, vT, vT, vT, vT, vT, vT, vT, vT, vT, vT] [.box [V.d x1, V.d x2]] none)
noncomputable def L97_0 (x0 x1 x2 x3 x4 x5 x6 : A) (r0 : List (List A)) : Option Out := MM K (.head 97 [1, 1, 0, 1, 0] [vT, V.d x0, V.d x1, V.ptr 0 0, vT, vT, V.ptr 1 0, vT, V.d x2, V.d x3, vT, vT, vT, vT, vT, vT, vT, vT, vT, vT, vT, vT, vT, vT, vT, vT, vT, vT, vT, vT, vT, vT, vT, vT, vT, vT, vT, vT, vT, vT, vT, vT, vT, vT, vT, vT, vT, vT, vT, vT, vT, vT, vT, vT, vT, vT, vT, vT, vT, vT, vT, vT, vT, vT, vT, vT, vT, vT, vT, vT, vT, vT, vT, vT, vT, vT, vT, vT, vT, vT] [.box [V.d x4, V.d x5], .box [V.d x6, V.row 2], .row 2 r0] none)
noncomputable def L97_1 (x0 x1 x2 x3 x4 x5 x6 x7 x8 x9 : A) (r0 : List (List A)) : Option Out := MM K (.head 97 [1, 1, 0, 1, 0, 0, 1, 0, 0, 1, 1, 1, 0] [vT, V.d x0, V.d x1, V.ptr 0 0, vT, vT, V.ptr 1 0, vT, V.d x2, V.d x3, V.ptr 2 0, vT, V.d x4, vT, vT, vT, vT, vT, vT, vT, vT, vT, vT, vT, vT, vT, vT, vT, vT, vT, vT, vT, vT, vT, vT, vT, vT, vT, vT, vT, vT, vT, vT, vT, vT, vT, vT, vT, vT, vT, vT, vT, vT, vT, vT, vT, vT, vT, vT, vT, vT, vT, vT, vT, vT, vT, vT, vT, vT, vT, vT, vT, vT, vT, vT, vT, vT, vT, vT, vT] [.box [V.d x5, V.d x6], .box [V.d x7, V.row 3], .box [V.d x8, V.d x9], .row 2 r0] none)
noncomputable def L98_0 (x0 x1 x2 x3 x4 : A) : Option Out := MM K (.head 98 [1, 1, 0, 1, 0] [vT, V.d x0, V.d x1, vT, vT, vT, vT, vT, vT, vT, vT, vT, vT, vT, vT, V.d x2, V.d x3, V.d x4, vT, vT, vT, vT, vT, vT, vT, vT, vT, vT, vT, vT, vT, vT] [] none)
noncomputable def L102_0 (x0 x1 x2 x3 x4 x5 x6 x7 : A) (r0 : List (List A)) : Option Out := MM K (.head 102 [1, 0, 1, 0] [vT, V.d x0, V.d x1, V.ptr 0 0, vT, vT, V.ptr 1 0, vT, vT, vT, vT, vT, vT, vT, vT, vT, vT, V.d x2, V.d x3, V.d x4, vT, vT, vT, vT, vT, vT, vT, vT, vT, vT, vT, vT, vT, vT, vT, vT, vT, vT, vT, vT, vT, vT, vT, vT, vT, vT, vT, vT, vT, vT, vT, vT, vT, vT, vT, vT, vT, vT, vT, vT, vT, vT, vT, vT, vT] [.box [V.d x5, V.d x6], .box [V.d x7, V.row 2], .row 2 r0] none)
noncomputable def L102_1 (x0 x1 x2 x3 x4 x5 x6 : A) (r0 : List (List A)) : Option Out := MM K (.head 102 [1, 1, 0, 1, 0] [vT, vT, V.d x0, V.ptr 0 0, vT, vT, V.ptr 1 0, vT, vT, vT, vT, vT, vT, vT, vT, vT, vT, vT, vT, vT, vT, vT, vT, vT, vT, vT, vT, vT, vT, vT, vT, vT, vT, vT, vT, vT, vT, vT, vT, vT, V.d x1, V.d x2, V.d x3, vT, vT, vT, vT, vT, vT, vT, vT, vT, vT, vT, vT, vT, vT, vT, vT, vT, vT, vT, vT, vT, vT] [.box [V.d x4, V.d x5], .box [V.d x6, V.row 2], .row 2 r0] none)
noncomputable def C103_0 (x0 x1 x2 x3 : A) : Option Out := MM K (.callv 103 [V.ptr 0 0, V.d x0] [.box [V.d x1, V.d x2, V.d x3]])
noncomputable def C104_0 (x0 x1 x2 : A) : Option Out := MM K (.callv 104 [V.ptr 0 0] [.box [V.d x0, V.d x1, V.d x2]])
noncomputable def C105_0 (x0 x1 x2 : A) : Option Out := MM K (.callv 105 [V.ptr 0 0] [.box [V.d x0, V.d x1, V.d x2]])
noncomputable def C106_0 (x0 x1 x2 : A) : Option Out := MM K (.callv 106 [V.ptr 0 0] [.box [V.d x0, V.d x1, V.d x2]])
noncomputable def L107_0 (x0 x1 x2 : A) : Option Out := MM K (.head 107 [1, 0, 1, 0] [vT, V.d x0, V.ptr 0 0, vT, vT, V.d x1, vT, vT, vT, vT, vT, vT, vT, vT, vT, vT, vT, vT, vT, vT, vT, vT] [.box [V.d x2]] none)
noncomputable def C108_0 (x0 x1 : A) (r0 : List (List A)) : Option Out := MM K (.callv 108 [V.agg [V.row 0], V.d x0, V.d x1] [.row 3 r0])
noncomputable def L108c0_0 (x0 x1 x2 x3 : A) (r0 r1 : List (List A)) : Option Out := MM K (.head 108 [1, 1, 1, 0, 0] [vT, V.d x0, vT, V.ptr 0 0, vT, V.ptr 1 0, V.ptr 2 0, V.d x1, vT, vT, vT, vT, vT, vT, vT, vT, vT, vT, vT, vT, vT, vT, vT, vT, vT, vT, vT, vT, vT, vT, vT, vT, vT, vT, vT, vT, vT, vT, vT, vT, vT, vT, vT, vT, vT, vT, vT, vT, vT, vT, vT] [.box [V.row 3], .box [V.d x2, V.d x3], .box [V.row 4], .row 3 r0, .row 3 r1] (some [3]))
noncomputable def C108_1 (x0 x1 : A) (r0 r1 : List (List A)) : Option Out := MM K (.callv 108 [V.agg [V.row 0], V.d x0, V.agg [V.d x1, V.row 1]] [.row 3 r0, .row 2 r1])
noncomputable def L108c1_0 (x0 x1 x2 : A) (r0 r1 r2 : List (List A)) : Option Out := MM K (.head 108 [1, 1, 1, 0, 0] [vT, V.d x0, vT, V.ptr 0 0, vT, V.ptr 1 0, V.ptr 2 0, V.d x1, vT, vT, vT, vT, vT, vT, vT, vT, vT, vT, vT, vT, vT, vT, vT, vT, vT, vT, vT, vT, vT, vT, vT, vT, vT, vT, vT, vT, vT, vT, vT, vT, vT, vT, vT, vT, vT, vT, vT, vT, vT, vT, vT] [.box [V.row 3], .box [V.d x2, V.row 4], .box [V.row 5], .row 3 r0, .row 2 r1, .row 3 r2] (some [3, 4]))
noncomputable def C109_0 (x0 x1 x2 x3 : A) : Option Out := MM K (.callv 109 [V.ptr 0 0, V.d x0] [.box [V.d x1, V.d x2, V.d x3]])
noncomputable def C110_0 (x0 : A) (r0 : List (List A)) : Option Out := MM K (.callv 110 [V.row 0, V.d x0] [.row 1 r0])
noncomputable def L110c0_0 (x0 x1 x2 : A) (r0 : List (List A)) : Option Out := MM K (.head 110 [1, 0, 1, 0, 0, 1, 0] [V.row 0, vT, vT, V.ptr 1 0, vT, V.d x0, vT, vT, vT, vT, vT, vT, vT, vT, vT, vT, vT, vT, vT, vT, vT, vT, vT, vT, vT, vT, vT, vT, vT, vT, vT, vT, vT, vT, vT, vT, vT, vT, vT, vT, vT, vT, vT, vT, vT, vT, vT, vT, vT, vT, vT, vT, vT, vT, vT, vT, vT, vT, vT, vT, vT, vT, vT] [.row 1 r0, .box [V.d x1, V.d x2]] (some [0]))
noncomputable def L110c0_1 (x0 x1 x2 : A) (r0 : List (List A)) : Option Out := MM K (.head 110 [1, 1, 0, 1, 0] [V.row 0, vT, vT, V.ptr 1 0, vT, vT, V.d x0, vT, vT, vT, vT, vT, vT, vT, vT, vT, vT, vT, vT, vT, vT, vT, vT, vT, vT, vT, vT, vT, vT, vT, vT, vT, vT, vT, vT, vT, vT, vT, vT, vT, vT, vT, vT, vT, vT, vT, vT, vT, vT, vT, vT, vT, vT, vT, vT, vT, vT, vT, vT, vT, vT, vT, vT] [.row 1 r0, .box [V.d x1, V.d x2]] (some [0]))
noncomputable def L110c0_2 (x0 x1 x2 : A) (r0 : List (List A)) : Option Out := MM K (.head 110 [1, 1, 0, 1, 0] [V.row 0, vT, vT, V.ptr 1 0, vT, vT, V.d x0, vT, vT, vT, vT, vT, vT, vT, vT, vT, vT, vT, vT, vT, vT, vT, vT, vT, vT, vT, vT, vT, vT, vT, vT, vT, vT, vT, vT, vT, vT, vT, vT, vT, vT, vT, vT, vT, vT, vT, vT, vT, vT, vT, vT, vT, vT, vT, vT, vT, vT, vT, vT, vT, vT, vT, vT] [.row 1 r0, .box [V.d x1, V.d x2], .gone] (some [2]))
noncomputable def L111_0 (x0 x1 x2 x3 : A) : Option Out := MM K (.head 111 [1, 1, 0, 1, 0] [vT, vT, vT, V.d x0, vT, vT, vT, V.d x1, V.d x2, V.d x3, vT, vT, vT, vT, vT, vT, vT, vT, vT, vT, vT, vT] [] none)
noncomputable def L112_0 (x0 x1 x2 x3 : A) : Option Out := MM K (.head 112 [1, 1, 0, 1, 0] [vT, vT, vT, V.d x0, vT, vT, vT, V.d x1, V.d x2, V.d x3, vT, vT, vT, vT, vT, vT, vT, vT, vT, vT] [] none)
noncomputable def L113_0 (x0 x1 x2 : A) : Option Out := MM K (.head 113 [1, 0, 1, 0] [V.d x0, vT, vT, vT, vT, V.d x1, V.d x2, vT, vT, vT, vT, vT, vT, vT, vT, vT, vT, vT, vT, vT, vT, vT, vT, vT, vT, vT, vT, vT, vT, vT, vT, vT, vT, vT, vT, vT, vT, vT, vT, vT] [] none)
noncomputable def L116_0 (x0 x1 x2 x3 x4 : A) : Option Out := MM K (.head 116 [1, 0, 1, 0] [vT, V.d x0, V.ptr 0 0, vT, vT, V.d x1, vT, vT, vT, vT, vT, vT, vT, vT, vT, vT, vT, vT, vT, vT, vT] [.box [V.d x2, V.d x3, V.d x4]] none)
noncomputable def L118_0 (x0 x1 x2 x3 x4 : A) : Option Out := MM K (.head 118 [1, 1, 1, 0, 1, 0] [vT, V.d x0, V.ptr 0 0, vT, vT, V.d x1, V.d x2, vT, vT, vT, vT, vT, vT, vT, vT, vT, vT, vT, vT, vT, vT, vT, vT, vT, vT, vT, vT, vT] [.box [V.d x3, V.d x4]] none)
noncomputable def L122_0 (x0 x1 x2 x3 : A) : Option Out := MM K (.head 122 [1, 0, 1, 0] [V.d x0, V.d x1, vT, vT, vT, vT, vT, V.d x2, V.d x3, vT, vT, vT, vT, vT, vT, vT, vT, vT, vT] [] none)
noncomputable def L126_0 (x0 x1 x2 x3 x4 : A) : Option Out := MM K (.head 126 [1, 1, 1, 0, 1, 0] [vT, V.d x0, vT, vT, vT, V.d x1, vT, vT, vT, vT, vT, vT, vT, V.d x2, V.d x3, V.d x4, vT, vT, vT, vT, vT, vT, vT, vT, vT, vT] [] none)
noncomputable def L127_0 (x0 x1 x2 x3 x4 x5 x6 : A) : Option Out := MM K (.head 127 [1, 1, 1, 0, 1, 0] [vT, vT, V.ptr 0 0, vT, vT, V.d x0, vT, vT, vT, vT, vT, vT, vT, vT, vT, vT, vT, vT, vT, vT, vT, vT, V.d x1, V.d x2, V.d x3, vT, vT, vT, vT, vT, vT, vT, vT, vT, vT] [.box [V.d x4, V.d x5, V.d x6]] none)
noncomputable def L129_0 (x0 x1 x2 x3 x4 x5 x6 : A) (r0 r1 : List (List A)) : Option Out := MM K (.head 129 [1, 1, 0, 1, 0] [vT, vT, vT, V.ptr 0 0, V.ptr 1 0, V.ptr 2 0, vT, vT, vT, vT, vT, vT, vT, vT, vT, vT, vT, vT, vT, vT, vT, vT, vT, vT, vT, vT, V.d x0, V.d x1, V.d x2, vT, vT, vT, vT, vT, vT, vT, vT, vT, vT, vT, vT, vT, vT, vT, vT, vT, vT, vT, vT, vT] [.box [V.d x3, V.d x4], .box [V.d x5, V.row 3], .box [V.d x6, V.row 4], .row 2 r0, .row 2 r1] none)
noncomputable def L130_0 (x0 x1 x2 x3 x4 : A) : Option Out := MM K (.head 130 [1, 1, 0, 1, 0] [vT, V.d x0, V.ptr 0 0, vT, vT, V.d x1, V.d x2, vT, vT, vT, vT, vT, vT, vT, vT, vT, vT, vT, vT, vT, vT, vT, vT, vT, vT, vT, vT, vT, vT, vT, vT] [.box [V.d x3, V.d x4]] none)
noncomputable def L131_0 (x0 x1 x2 x3 : A) : Option Out := MM K (.head 131 [1, 1, 0, 1, 0] [vT, V.ptr 0 0, vT, V.d x0, V.d x1, vT, vT, vT, vT, vT, vT, vT, vT, vT, vT, vT, vT, vT, vT, vT, vT, vT] [.box [V.d x2, V.d x3]] none)
noncomputable def L132_0 (x0 x1 x2 x3 x4 x5 x6 : A) (r0 : List (List A)) : Option Out := MM K (.head 132 [1, 1, 1, 1, 0, 1, 0] [vT, vT, V.ptr 0 0, V.ptr 1 0, vT, V.ptr 2 0, V.d x0, vT, vT, vT, vT, vT, vT, vT, vT, vT, vT, vT, vT, vT, vT, vT, vT, vT, vT, vT, vT, vT, vT, vT, vT, vT, vT, vT, vT, vT, vT, vT, vT, vT, vT, vT, vT, vT, vT, vT, vT, vT, vT, vT] [.box [V.d x1, V.d x2], .box [V.d x3, V.d x4], .box [V.d x5, V.row 3, V.d x6], .row 1 r0] none)
noncomputable def L133_0 (x0 x1 x2 x3 : A) (r0 : List (List A)) : Option Out := MM K (.head 133 [1, 1, 0, 1, 0] [vT, V.d x0, V.ptr 0 0, vT, vT, V.row 1, V.d x1, vT, vT, vT, vT, vT, vT, vT, vT, vT, vT, vT, vT, vT, vT, vT, vT, vT, vT, vT, vT, vT, vT, vT, vT, vT, vT] [.box [V.d x2, V.d x3], .row 1 r0] none)
noncomputable def L134_0 (x0 x1 x2 x3 x4 : A) (r0 : List (List A)) : Option Out := MM K (.head 134 [1, 0, 1, 0] [vT, V.d x0, V.ptr 0 0, vT, V.ptr 1 0, vT, V.d x1, vT, vT, vT, vT, vT, vT, vT, vT, vT, vT, vT, vT, vT, vT, vT, vT, vT, vT, vT, vT, vT, vT, vT, vT, vT, vT, vT] [.box [V.d x2, V.d x3], .box [V.d x4, V.row 2], .row 2 r0] none)
noncomputable def C135_0 (x0 x1 x2 : A) (r0 : List (List A)) : Option Out := MM K (.callv 135 [V.d x0, V.agg [V.d x1, V.d x2], V.row 0] [.row 3 r0])
noncomputable def L135c0_0 (x0 x1 x2 x3 x4 : A) (r0 : List (List A)) : Option Out := MM K (.head 135 [1, 0, 1, 0, 0, 1, 0] [vT, vT, V.row 0, V.ptr 1 0, V.ptr 2 0, vT, vT, vT, V.d x0, vT, vT, vT, vT, vT, vT, vT, vT, vT, vT, vT, vT, vT, vT, vT, vT, vT, vT, vT, vT, vT, vT, vT, vT, vT, vT, vT, vT, vT, vT, vT, vT, vT, vT, vT, vT, vT, vT, vT, vT, vT, vT, vT, vT, vT, vT, vT, vT, vT, vT, vT, vT, vT, vT, vT, vT, vT, vT, vT, vT, vT, vT, vT, vT, vT, vT, vT, vT, vT, vT, vT, vT, vT, vT, vT, vT, vT] [.row 3 r0, .box [V.d x1, V.d x2], .box [V.d x3, V.d x4]] (some [0]))
noncomputable def L135c0_1 (x0 x1 x2 x3 x4 : A) (r0 : List (List A)) : Option Out := MM K (.head 135 [1, 1, 1, 0, 1, 0] [vT, vT, V.row 0, V.ptr 1 0, V.ptr 2 0, vT, vT, vT, vT, V.d x0, vT, vT, vT, vT, vT, vT, vT, vT, vT, vT, vT, vT, vT, vT, vT, vT, vT, vT, vT, vT, vT, vT, vT, vT, vT, vT, vT, vT, vT, vT, vT, vT, vT, vT, vT, vT, vT, vT, vT, vT, vT, vT, vT, vT, vT, vT, vT, vT, vT, vT, vT, vT, vT, vT, vT, vT, vT, vT, vT, vT, vT, vT, vT, vT, vT, vT, vT, vT, vT, vT, vT, vT, vT, vT, vT, vT] [.row 3 r0, .box [V.d x1, V.d x2], .box [V.d x3, V.d x4]] (some [0]))
noncomputable def L135c0_2 (x0 x1 x2 x3 x4 : A) (r0 : List (List A)) : Option Out := MM K (.head 135 [1, 1, 1, 0, 1, 0] [vT, vT, V.row 0, V.ptr 1 0, V.ptr 2 0, vT, vT, vT, vT, V.d x0, vT, vT, vT, vT, vT, vT, vT, vT, vT, vT, vT, vT, vT, vT, vT, vT, vT, vT, vT, vT, vT, vT, vT, vT, vT, vT, vT, vT, vT, vT, vT, vT, vT, vT, vT, vT, vT, vT, vT, vT, vT, vT, vT, vT, vT, vT, vT, vT, vT, vT, vT, vT, vT, vT, vT, vT, vT, vT, vT, vT, vT, vT, vT, vT, vT, vT, vT, vT, vT, vT, vT, vT, vT, vT, vT, vT] [.row 3 r0, .box [V.d x1, V.d x2], .box [V.d x3, V.d x4], .gone] (some [3]))
noncomputable def L135c0_3 (x0 x1 x2 x3 x4 : A) : Option Out := MM K (.head 135 [1, 1, 1, 0, 1, 0] [vT, vT, V.row 0, V.ptr 1 0, V.ptr 2 0, vT, vT, vT, vT, V.d x0, vT, vT, vT, vT, vT, vT, vT, vT, vT, vT, vT, vT, vT, vT, vT, vT, vT, vT, vT, vT, vT, vT, vT, vT, vT, vT, vT, vT, vT, vT, vT, vT, vT, vT, vT, vT, vT, vT, vT, vT, vT, vT, vT, vT, vT, vT, vT, vT, vT, vT, vT, vT, vT, vT, vT, vT, vT, vT, vT, vT, vT, vT, vT, vT, vT, vT, vT, vT, vT, vT, vT, vT, vT, vT, vT, vT] [.gone, .box [V.d x1, V.d x2], .box [V.d x3, V.d x4], .gone] (some [3]))
noncomputable def C135_1 (x0 x1 : A) (r0 : List (List A)) : Option Out := MM K (.callv 135 [V.d x0, V.d x1, V.row 0] [.row 3 r0])
noncomputable def L135c1_0 (x0 x1 x2 x3 x4 : A) (r0 : List (List A)) : Option Out := MM K (.head 135 [1, 0, 1, 0, 0, 1, 0] [vT, vT, V.row 0, V.ptr 1 0, V.ptr 2 0, vT, vT, vT, V.d x0, vT, vT, vT, vT, vT, vT, vT, vT, vT, vT, vT, vT, vT, vT, vT, vT, vT, vT, vT, vT, vT, vT, vT, vT, vT, vT, vT, vT, vT, vT, vT, vT, vT, vT, vT, vT, vT, vT, vT, vT, vT, vT, vT, vT, vT, vT, vT, vT, vT, vT, vT, vT, vT, vT, vT, vT, vT, vT, vT, vT, vT, vT, vT, vT, vT, vT, vT, vT, vT, vT, vT, vT, vT, vT, vT, vT, vT] [.row 3 r0, .box [V.d x1, V.d x2], .box [V.d x3, V.d x4]] (some [0]))
noncomputable def L135c1_1 (x0 x1 x2 x3 x4 : A) (r0 : List (List A)) : Option Out := MM K (.head 135 [1, 1, 1, 0, 1, 0] [vT, vT, V.row 0, V.ptr 1 0, V.ptr 2 0, vT, vT, vT, vT, V.d x0, vT, vT, vT, vT, vT, vT, vT, vT, vT, vT, vT, vT, vT, vT, vT, vT, vT, vT, vT, vT, vT, vT, vT, vT, vT, vT, vT, vT, vT, vT, vT, vT, vT, vT, vT, vT, vT, vT, vT, vT, vT, vT, vT, vT, vT, vT, vT, vT, vT, vT, vT, vT, vT, vT, vT, vT, vT, vT, vT, vT, vT, vT, vT, vT, vT, vT, vT, vT, vT, vT, vT, vT, vT, vT, vT, vT] [.row 3 r0, .box [V.d x1, V.d x2], .box [V.d x3, V.d x4]] (some [0]))
noncomputable def L135c1_2 (x0 x1 x2 x3 x4 : A) (r0 : List (List A)) : Option Out := MM K (.head 135 [1, 1, 1, 0, 1, 0] [vT, vT, V.row 0, V.ptr 1 0, V.ptr 2 0, vT, vT, vT, vT, V.d x0, vT, vT, vT, vT, vT, vT, vT, vT, vT, vT, vT, vT, vT, vT, vT, vT, vT, vT, vT, vT, vT, vT, vT, vT, vT, vT, vT, vT, vT, vT, vT, vT, vT, vT, vT, vT, vT, vT, vT, vT, vT, vT, vT, vT, vT, vT, vT, vT, vT, vT, vT, vT, vT, vT, vT, vT, vT, vT, vT, vT, vT, vT, vT, vT, vT, vT, vT, vT, vT, vT, vT, vT, vT, vT, vT, vT] [.row 3 r0, .box [V.d x1, V.d x2], .box [V.d x3, V.d x4], .gone] (some [3]))
noncomputable def L135c1_3 (x0 x1 x2 x3 x4 : A) : Option Out := MM K (.head 135 [1, 1, 1, 0, 1, 0] [vT, vT, V.row 0, V.ptr 1 0, V.ptr 2 0, vT, vT, vT, vT, V.d x0, vT, vT, vT, vT, vT, vT, vT, vT, vT, vT, vT, vT, vT, vT, vT, vT, vT, vT, vT, vT, vT, vT, vT, vT, vT, vT, vT, vT, vT, vT, vT, vT, vT, vT, vT, vT, vT, vT, vT, vT, vT, vT, vT, vT, vT, vT, vT, vT, vT, vT, vT, vT, vT, vT, vT, vT, vT, vT, vT, vT, vT, vT, vT, vT, vT, vT, vT, vT, vT, vT, vT, vT, vT, vT, vT, vT] [.gone, .box [V.d x1, V.d x2], .box [V.d x3, V.d x4], .gone] (some [3]))
noncomputable def L137_0 (x0 x1 : A) (r0 r1 : List (List A)) : Option Out := MM K (.head 137 [1, 1, 0, 1, 0] [V.d x0, vT, V.ptr 0 0, V.ptr 1 0, V.d x1, vT, vT, vT, vT, vT, vT, vT, vT, vT, vT, vT, vT, vT, vT, vT, vT, vT, vT, vT, vT] [.box [V.row 2], .box [V.row 3], .row 3 r0, .row 3 r1] none)
noncomputable def L138_0 (x0 x1 x2 x3 : A) : Option Out := MM K (.head 138 [1, 0, 1, 0] [V.d x0, V.d x1, vT, vT, vT, vT, vT, V.d x2, V.d x3, vT, vT, vT, vT, vT, vT, vT, vT, vT, vT] [] none)
noncomputable def C140_0 (x0 x1 x2 : A) (r0 : List (List A)) : Option Out := MM K (.callv 140 [V.row 0, V.d x0, V.agg [V.d x1, V.d x2]] [.map r0])
noncomputable def L140c0_0 (x0 x1 x2 x3 x4 : A) (r0 : List (List A)) : Option Out := MM K (.head 140 [1, 1, 1, 0, 1, 0] [V.row 0, vT, vT, vT, vT, V.ptr 1 0, vT, vT, vT, vT, vT, vT, vT, vT, vT, vT, vT, vT, vT, vT, vT, vT, vT, vT, vT, vT, vT, vT, vT, vT, vT, vT, vT, vT, vT, vT, vT, vT, vT, vT, vT, vT, vT, vT, vT, vT, vT, vT, vT, vT, vT, vT, V.d x0, V.d x1, V.d x2, vT, vT, vT, vT, vT, vT, vT, vT, vT, vT, vT, vT, vT, vT] [.map r0, .box [V.d x3, V.d x4]] (some [0]))
noncomputable def C140_1 (x0 x1 x2 : A) (r0 : List (List A)) : Option Out := MM K (.callv 140 [V.row 0, V.agg [V.d x0, V.d x1], V.d x2] [.map r0])
noncomputable def L140c1_0 (x0 x1 x2 x3 x4 : A) (r0 : List (List A)) : Option Out := MM K (.head 140 [1, 1, 1, 0, 1, 0] [V.row 0, vT, vT, vT, vT, V.ptr 1 0, vT, vT, vT, vT, vT, vT, vT, vT, vT, vT, vT, vT, vT, vT, vT, vT, vT, vT, vT, vT, vT, vT, vT, vT, vT, vT, vT, vT, vT, vT, vT, vT, vT, vT, vT, vT, vT, vT, vT, vT, vT, vT, vT, vT, vT, vT, V.d x0, V.d x1, V.d x2, vT, vT, vT, vT, vT, vT, vT, vT, vT, vT, vT, vT, vT, vT] [.map r0, .box [V.d x3, V.d x4]] (some [0]))
noncomputable def L141_0 (x0 x1 x2 x3 x4 x5 : A) (r0 r1 : List (List A)) : Option Out := MM K (.head 141 [1, 1, 1, 0, 1, 0] [vT, V.d x0, vT, vT, V.ptr 0 0, vT, vT, V.ptr 1 0, vT, vT, vT, vT, vT, vT, vT, vT, vT, vT, vT, vT, vT, vT, vT, vT, vT, vT, vT, vT, vT, vT, V.d x1, V.d x2, V.d x3, vT, vT, vT, vT, vT, vT, vT, vT, vT, vT, vT, vT, vT] [.box [V.d x4, V.row 2], .box [V.d x5, V.row 3], .row 2 r0, .row 2 r1] none)
noncomputable def C142_0 (x0 x1 x2 : A) : Option Out := MM K (.callv 142 [V.ptr 0 0] [.box [V.d x0, V.d x1, V.d x2]])
noncomputable def C143_0 (x0 x1 x2 : A) (r0 : List (List A)) : Option Out := MM K (.callv 143 [V.ptr 0 0, V.row 1] [.box [V.d x0, V.d x1, V.d x2], .row 1 r0])
noncomputable def C144_0 (x0 x1 x2 x3 : A) : Option Out := MM K (.callv 144 [V.ptr 0 0, V.d x0] [.box [V.d x1, V.d x2, V.d x3]])
noncomputable def L144c0_0 (x0 x1 x2 x3 x4 x5 : A) (r0 r1 : List (List A)) : Option Out := MM K (.head 144 [1, 1, 0, 0] [vT, V.d x0, vT, vT, V.ptr 0 0, V.ptr 1 0, vT, vT, vT, vT, vT, vT, vT, vT, vT, vT, vT, vT] [.box [V.d x1, V.row 3], .box [V.d x2, V.row 4], .box [V.d x3, V.d x4, V.d x5], .row 2 r0, .row 2 r1] (some [2]))
noncomputable def C145_0 (x0 x1 x2 : A) : Option Out := MM K (.callv 145 [V.ptr 0 0] [.box [V.d x0, V.d x1, V.d x2]])
noncomputable def L145c0_0 (x0 x1 x2 x3 x4 x5 : A) (r0 r1 : List (List A)) : Option Out := MM K (.head 145 [1, 1, 0, 1, 0] [V.ptr 0 0, vT, V.ptr 1 0, V.ptr 2 0, V.d x0, vT, vT, vT, vT, vT, vT, vT, vT, vT, vT, vT, vT, vT, vT, vT, vT, vT, vT, vT, vT, vT, vT, vT, vT, vT, vT, vT, vT, vT, vT, vT, vT, vT, vT, vT, vT, vT, vT, vT, vT, vT, vT, vT, vT, vT, vT, vT, vT, vT] [.box [V.d x1, V.d x2, V.d x3], .box [V.d x4, V.row 3], .box [V.d x5, V.row 4], .row 2 r0, .row 2 r1] (some [0]))
noncomputable def L145c0_1 (x0 x1 x2 x3 x4 x5 x6 x7 : A) (r0 r1 r2 : List (List A)) : Option Out := MM K (.head 145 [1, 1, 0, 1, 0, 0, 1, 0, 0, 1, 0, 1, 0] [V.ptr 0 0, vT, V.ptr 1 0, V.ptr 2 0, V.d x0, V.ptr 3 0, V.d x1, vT, vT, vT, vT, vT, vT, vT, vT, vT, vT, vT, vT, vT, vT, vT, vT, vT, vT, vT, vT, vT, vT, vT, vT, vT, vT, vT, vT, vT, vT, vT, vT, vT, vT, vT, vT, vT, vT, vT, vT, vT, vT, vT, vT, vT, vT, vT] [.box [V.d x2, V.d x3, V.d x4], .box [V.d x5, V.row 4], .box [V.d x6, V.row 5], .box [V.d x7, V.row 6], .row 2 r0, .row 2 r1, .row 2 r2] (some [0]))
noncomputable def L147_0 (x0 x1 x2 x3 : A) : Option Out := MM K (.head 147 [1, 1, 0, 1, 0] [V.d x0, vT, vT, V.ptr 0 0, vT, V.d x1, vT, vT, vT, vT, vT, vT, vT, vT, vT, vT, vT, vT, vT, vT, vT, vT, vT, vT, vT, vT, vT, vT] [.box [V.d x2, V.d x3]] none)
noncomputable def C148_0 (x0 x1 : A) (r0 : List (List A)) : Option Out := MM K (.callv 148 [V.row 0, V.agg [V.d x0, V.d x1]] [.row 1 r0])
noncomputable def L148c0_0 (x0 x1 x2 : A) (r0 : List (List A)) : Option Out := MM K (.head 148 [1, 1, 0, 1, 0] [V.row 0, vT, vT, vT, vT, vT, vT, vT, vT, vT, vT, vT, vT, vT, vT, vT, vT, vT, vT, vT, vT, vT, vT, vT, vT, vT, vT, V.d x0, V.d x1, V.d x2, vT, vT, vT, vT, vT, vT, vT, vT] [.row 1 r0] (some [0]))
noncomputable def L148c0_1 (x0 x1 x2 : A) (r0 : List (List A)) : Option Out := MM K (.head 148 [1, 1, 0, 1, 0] [V.row 0, vT, vT, vT, vT, vT, vT, vT, vT, vT, vT, vT, vT, vT, vT, vT, vT, vT, vT, vT, vT, vT, vT, vT, vT, vT, vT, V.d x0, V.d x1, V.d x2, vT, vT, vT, vT, vT, vT, vT, vT] [.row 1 r0, .gone] (some [1]))
noncomputable def C149_0 (r0 : List (List A)) : Option Out := MM K (.callv 149 [V.row 0] [.row 1 r0])
noncomputable def L151_0 (x0 x1 x2 x3 : A) : Option Out := MM K (.head 151 [1, 1, 0, 1, 0] [V.d x0, vT, vT, V.ptr 0 0, vT, V.d x1, vT, vT, vT, vT, vT, vT, vT, vT, vT, vT, vT, vT, vT, vT, vT, vT, vT, vT, vT, vT, vT, vT, vT] [.box [V.d x2, V.d x3]] none)
noncomputable def C153_0 (x0 : A) : Option Out := MM K (.callv 153 [V.d x0] [])
noncomputable def C154_0 (x0 x1 : A) (r0 : List (List A)) : Option Out := MM K (.callv 154 [V.row 0, V.agg [V.d x0, V.d x1]] [.row 1 r0])
noncomputable def L154c0_0 (x0 x1 x2 : A) (r0 : List (List A)) : Option Out := MM K (.head 154 [1, 1, 0, 1, 0] [V.row 0, vT, vT, vT, vT, vT, vT, vT, vT, vT, vT, vT, vT, vT, vT, vT, vT, vT, vT, vT, vT, vT, vT, V.d x0, V.d x1, V.d x2, vT, vT, vT, vT, vT, vT, vT, vT] [.row 1 r0, .gone] (some [1]))
noncomputable def L154c0_1 (x0 x1 x2 : A) (r0 : List (List A)) : Option Out := MM K (.head 154 [1, 1, 0, 1, 0] [V.row 0, vT, vT, vT, vT, vT, vT, vT, vT, vT, vT, vT, vT, vT, vT, vT, vT, vT, vT, vT, vT, vT, vT, V.d x0, V.d x1, V.d x2, vT, vT, vT, vT, vT, vT, vT, vT] [.row 1 r0] (some [0]))
noncomputable def C155_0 (x0 : A) (r0 : List (List A)) : Option Out := MM K (.callv 155 [V.row 0, V.d x0] [.row 1 r0])
noncomputable def L155c0_0 (x0 : A) (r0 r1 : List (List A)) : Option Out := MM K (.head 155 [1, 1, 1, 1, 1, 1, 0, 0] [vT, vT, vT, vT, vT, vT, vT, V.row 0, V.d x0, vT, vT, vT, vT, vT, vT, vT, vT, vT, vT, vT, vT, vT, vT, vT, vT, vT, vT, vT, vT, vT, vT, vT, vT, vT, vT, vT, vT, vT, vT, vT, vT, vT, vT, vT, vT, vT, vT, vT] [.row 1 r0, .row 1 r1] (some [1]))
noncomputable def L156_0 (x0 x1 x2 : A) : Option Out := MM K (.head 156 [1, 1, 0, 0] [V.d x0, V.d x1, vT, vT, vT, V.d x2, vT, vT, vT, vT, vT, vT, vT, vT, vT, vT, vT, vT, vT, vT, vT, vT, vT, vT, vT, vT, vT, vT, vT, vT, vT, vT, vT, vT, vT, vT, vT, vT, vT, vT, vT, vT, vT, vT, vT] [] none)
theorem g6 (a0 : A) : G 6 [a0] =
 ((G 26 [a0]).bind (fin false)).bind fun t0 =>
 (pBool t0).bind fun t1 =>
 brn t1 (
 some ((vb true, []))) (
 ((G 27 [a0]).bind (fin false)).bind fun t2 =>
 (pTup t2 0).bind fun t3 =>
 (pTup t2 1).bind fun t4 =>
 (pCells 2 t3).bind fun t5 =>
 ((G 24 [A.agg [cGet t5 0, cGet t5 1], t4]).bind (fin false)).bind fun t6 =>
 (pTup t6 0).bind fun t7 =>
 (pTup t6 1).bind fun t8 =>
 (pTup t6 2).bind fun t9 =>
 (pCells 2 t7).bind fun t10 =>
 ((G 23 [A.agg [cGet t5 0, cGet t5 1], t4]).bind (fin false)).bind fun t11 =>
 (pTup t11 0).bind fun t12 =>
 (pTup t11 1).bind fun t13 =>
 (pTup t11 2).bind fun t14 =>
 (pCells 2 t12).bind fun t15 =>
 (pBin .neq true t9 t14).bind fun t16 =>
 (pBool t16).bind fun t17 =>
 brn t17 (
 some ((vb false, []))) (
 (pUn .not t9).bind fun t18 =>
 (pBool t18).bind fun t19 =>
 brn t19 (
 (pBin .eql false t8 (vi 0)).bind fun t20 =>
 some ((t20, []))) (
 ((G 24 [A.agg [cGet t10 0, cGet t10 1], t4]).bind (fin false)).bind fun t21 =>
 (pTup t21 0).bind fun t22 =>
 (pTup t21 1).bind fun t23 =>
 (pTup t21 2).bind fun t24 =>
 (pCells 2 t22).bind fun t25 =>
 (pUn .not t24).bind fun t26 =>
 (pG t26 false (some t23)).bind fun t27 =>
 (pG t26 false (pBin .neq false t27 (vi 0))).bind fun t28 =>
 (pPick t26 (vb true) t28).bind fun t29 =>
 (pWant t29 false).bind fun t30 =>
 (pWant t29 false).bind fun t31 =>
 (pG t29 false ((G 28 [A.agg [cGet t10 0, cGet t10 1], A.agg [cGet t25 0, cGet t25 1]]).bind (fin false))).bind fun t32 =>
 (pG t29 false (pUn .not t32)).bind fun t33 =>
 (pPick t29 (vb true) t33).bind fun t34 =>
 (pG t34 false (some t8)).bind fun t35 =>
 (pG t34 false (pBin .eql false t35 (vi 0))).bind fun t36 =>
 (pG t34 false (some t36)).bind fun t37 =>
 (pWant t37 true).bind fun t38 =>
 (pWant t37 true).bind fun t39 =>
 (pG t37 true ((G 28 [A.agg [cGet t5 0, cGet t5 1], A.agg [cGet t10 0, cGet t10 1]]).bind (fin false))).bind fun t40 =>
 (pG t37 true (pUn .not t40)).bind fun t41 =>
 (pG t34 false (pPick t37 t41 (vb false))).bind fun t42 =>
 (pPick t34 (vb true) t42).bind fun t43 =>
 (pBool t43).bind fun t44 =>
 brn t44 (
 some ((vb false, []))) (
 L6_0 a0 t4 (vi 1) (cGet t5 0) (cGet t5 1) (cGet t10 0) (cGet t10 1))))) :=
 (G_eq rfl Tryz.func6 rfl rfl).trans (by kernel_rfl)
theorem l6_0 (x0 x1 x2 x3 x4 x5 x6 : A) : L6_0 x0 x1 x2 x3 x4 x5 x6 =
 (pBin .lss false x2 (vi 4)).bind fun t45 =>
 (pBool t45).bind fun t46 =>
 brn t46 (
 ((G 30 [x0, vi 1]).bind (fin false)).bind fun t47 =>
 (pBin .rem false t47 x2).bind fun t48 =>
 ((G 29 [A.agg [A.sl 1 [], A.sl 1 []], sv [88], t48]).bind (fin false)).bind fun t49 =>
 ((G 30 [x0, vi 2]).bind (fin false)).bind fun t50 =>
 (pBin .rem false t50 x2).bind fun t51 =>
 ((G 29 [t49, sv [89], t51]).bind (fin false)).bind fun t52 =>
 ((G 30 [x0, vi 3]).bind (fin false)).bind fun t53 =>
 (pBin .rem false t53 x2).bind fun t54 =>
 ((G 29 [t52, sv [90], t54]).bind (fin false)).bind fun t55 =>
 (pCells 2 t55).bind fun t56 =>
 ((G 31 [x0, x2, x1]).bind (fin false)).bind fun t57 =>
 (pUn .not t57).bind fun t58 =>
 (pBool t58).bind fun t59 =>
 brn t59 (
 (pBin .add false x2 (vi 1)).bind fun t60 =>
 L6_0 x0 x1 t60 x3 x4 x5 x6) (
 ((G 32 [A.agg [x3, x4]]).bind (fin false)).bind fun t61 =>
 (pG t61 true (some x0)).bind fun t62 =>
 (pG t61 true (some x2)).bind fun t63 =>
 (pWant t61 true).bind fun t64 =>
 (pWant t61 true).bind fun t65 =>
 (pG t61 true ((G 33 [t62, t63, A.agg [cGet t56 0, cGet t56 1], A.agg [x3, x4]]).bind (fin false))).bind fun t66 =>
 (pG t61 true (some x0)).bind fun t67 =>
 (pG t61 true (some x2)).bind fun t68 =>
 (pWant t61 true).bind fun t69 =>
 (pWant t61 true).bind fun t70 =>
 (pG t61 true ((G 33 [t67, t68, A.agg [cGet t56 0, cGet t56 1], A.agg [x5, x6]]).bind (fin false))).bind fun t71 =>
 (pG t61 true (pBin .neq false t66 t71)).bind fun t72 =>
 (pPick t61 t72 (vb false)).bind fun t73 =>
 (pBool t73).bind fun t74 =>
 brn t74 (
 some ((vb false, []))) (
 ((G 32 [A.agg [x3, x4]]).bind (fin false)).bind fun t75 =>
 (pUn .not t75).bind fun t76 =>
 (pG t76 true (some x0)).bind fun t77 =>
 (pG t76 true (some x2)).bind fun t78 =>
 (pWant t76 true).bind fun t79 =>
 (pWant t76 true).bind fun t80 =>
 (pG t76 true ((G 34 [t77, t78, A.agg [cGet t56 0, cGet t56 1], A.agg [x3, x4]]).bind (fin false))).bind fun t81 =>
 (pG t76 true (some x0)).bind fun t82 =>
 (pG t76 true (some x2)).bind fun t83 =>
 (pWant t76 true).bind fun t84 =>
 (pWant t76 true).bind fun t85 =>
 (pG t76 true ((G 34 [t82, t83, A.agg [cGet t56 0, cGet t56 1], A.agg [x5, x6]]).bind (fin false))).bind fun t86 =>
 (pG t76 true (pBin .neq true t81 t86)).bind fun t87 =>
 (pPick t76 t87 (vb false)).bind fun t88 =>
 (pBool t88).bind fun t89 =>
 brn t89 (
 some ((vb false, []))) (
 (pBin .add false x2 (vi 1)).bind fun t90 =>
 L6_0 x0 x1 t90 x3 x4 x5 x6)))) (
 some ((vb true, []))) :=
 (H_eq Tryz.func6 rfl).trans (by kernel_rfl)
theorem g23 (a0 a1 : A) : G 23 [a0, a1] =
 (pCells 2 a0).bind fun t0 =>
 ((G 59 [A.agg [cGet t0 0, cGet t0 1]]).bind (fin false)).bind fun t1 =>
 (pUn .not t1).bind fun t2 =>
 (pG t2 false (some a1)).bind fun t3 =>
 (pG t2 false ((G 54 [t3]).bind (fin false))).bind fun t4 =>
 (pG t2 false (pUn .not t4)).bind fun t5 =>
 (pPick t2 (vb true) t5).bind fun t6 =>
 (pBool t6).bind fun t7 =>
 brn t7 (
 some ((A.tup [A.agg [sv [], A.sl 2 []], vi 0, vb false], []))) (
 ((G 60 [A.agg [cGet t0 0, cGet t0 1]]).bind (fin false)).bind fun t8 =>
 ((G 55 [A.agg [cGet t0 0, cGet t0 1], a1, t8]).bind (fin false)).bind fun t9 =>
 (pTup t9 0).bind fun t10 =>
 (pTup t9 1).bind fun t11 =>
 (pTup t9 2).bind fun t12 =>
 (pCells 2 t10).bind fun t13 =>
 some ((A.tup [A.agg [cGet t13 0, cGet t13 1], t11, t12], []))) :=
 (G_eq rfl Tryz.func23 rfl rfl).trans (by kernel_rfl)
theorem g24 (a0 a1 : A) : G 24 [a0, a1] =
 (pCells 2 a0).bind fun t0 =>
 ((G 61 [A.agg [cGet t0 0, cGet t0 1]]).bind (fin false)).bind fun t1 =>
 (pUn .not t1).bind fun t2 =>
 (pG t2 false (some a1)).bind fun t3 =>
 (pG t2 false ((G 62 [t3]).bind (fin false))).bind fun t4 =>
 (pG t2 false (pUn .not t4)).bind fun t5 =>
 (pPick t2 (vb true) t5).bind fun t6 =>
 (pBool t6).bind fun t7 =>
 brn t7 (
 some ((A.tup [A.agg [sv [], A.sl 2 []], vi 0, vb false], []))) (
 ((G 63 [A.agg [cGet t0 0, cGet t0 1], a1, vb true]).bind (fin false)).bind fun t8 =>
 (pTup t8 0).bind fun t9 =>
 (pTup t8 1).bind fun t10 =>
 (pTup t8 2).bind fun t11 =>
 (pCells 2 t9).bind fun t12 =>
 some ((A.tup [A.agg [cGet t12 0, cGet t12 1], t10, t11], []))) :=
 (G_eq rfl Tryz.func24 rfl rfl).trans (by kernel_rfl)
theorem g26 (a0 : A) : G 26 [a0] =
 (pLenL a0).bind fun t0 =>
 (pBin .gtr false t0 (vi 65536)).bind fun t1 =>
 some ((t1, [])) :=
 (G_eq rfl Tryz.func26 rfl rfl).trans (by kernel_rfl)
theorem g27 (a0 : A) : G 27 [a0] =
 brn (okA a0) (
 brn (okA a0) (
 (C65_0 a0 (vi 0) (A.val (.int .u64 0))).bind fun t0 =>
 (hD t0 0).bind fun t1 =>
 (hD t0 1).bind fun t2 =>
 (hD t0 2).bind fun t3 =>
 (hD t0 3).bind fun t4 =>
 (C66_0 t1 t2 t3).bind fun t5 =>
 (hD t5 0).bind fun t6 =>
 (hD t5 1).bind fun t7 =>
 (hD t5 2).bind fun t8 =>
 (hD t5 3).bind fun t9 =>
 (pCells 2 t9).bind fun t10 =>
 (pLenL t4).bind fun t11 =>
 (pBin .gtr false t11 (vi 0)).bind fun t12 =>
 (pG t12 true (some t4)).bind fun t13 =>
 (pG t12 true (pIndexAddr 2 t13 (vi 0))).bind fun t14 =>
 (pG t12 true (pLoadN 2 t14)).bind fun t15 =>
 (pG t12 true ((G 53 [t15]).bind (fin false))).bind fun t16 =>
 (pPick t12 t16 (vb false)).bind fun t17 =>
 (pWant t17 true).bind fun t18 =>
 (pWant t17 true).bind fun t19 =>
 brn t19 (
 (C67_0 (vi 2) t6 t7 t8).bind fun t20 =>
 (hD t20 0).bind fun t21 =>
 (hD t20 1).bind fun t22 =>
 (hD t20 2).bind fun t23 =>
 (hD t20 3).bind fun t24 =>
 (pPick t17 t24 (vb false)).bind fun t25 =>
 (pBool t25).bind fun t26 =>
 brn t26 (
 (C69_0 t21 t22 t23).bind fun t27 =>
 (hD t27 0).bind fun t28 =>
 (hD t27 1).bind fun t29 =>
 (hD t27 2).bind fun t30 =>
 (hD t27 3).bind fun t31 =>
 (pIndexAddr 2 t4 (vi 0)).bind fun t32 =>
 (pAdd t32 1).bind fun t33 =>
 (pLoadP t33).bind fun t34 =>
 (pIndexAddr 2 t34 (vi 0)).bind fun t35 =>
 (pLoadN 2 t35).bind fun t36 =>
 (G 40 [t36]).bind fun t37 =>
 (fin false t37).bind fun t38 =>
 (C70_0 t28 t29 t30).bind fun t39 =>
 (hD t39 0).bind fun t40 =>
 (hD t39 1).bind fun t41 =>
 (hD t39 2).bind fun t42 =>
 (hD t39 3).bind fun t43 =>
 (hR 2 t39 4).bind fun t44 =>
 (pCells 2 t38).bind fun t45 =>
 brn (okA t43) (
 (G 68 [t31, A.agg [sv [103], A.sl 2 [[cGet t45 0, cGet t45 1], [t43, A.sl 2 t44]]]]).bind fun t46 =>
 (fin false t46).bind fun t47 =>
 (pCells 2 t47).bind fun t48 =>
 brn (okA (cGet t48 0)) (
 brn (okA (cGet t48 1)) (
 some ((A.tup [A.agg [cGet t48 0, cGet t48 1], t4], []))) (
 none)) (
 none)) (
 none)) (
 brn (okA (cGet t10 0)) (
 brn (okA (cGet t10 1)) (
 some ((A.tup [A.agg [cGet t10 0, cGet t10 1], t4], []))) (
 none)) (
 none))) (
 (pPick t17 (A.val undef) (vb false)).bind fun t49 =>
 (pBool t49).bind fun t50 =>
 brn t50 (
 (C69_0 t6 t7 t8).bind fun t51 =>
 (hD t51 0).bind fun t52 =>
 (hD t51 1).bind fun t53 =>
 (hD t51 2).bind fun t54 =>
 (hD t51 3).bind fun t55 =>
 (pIndexAddr 2 t4 (vi 0)).bind fun t56 =>
 (pAdd t56 1).bind fun t57 =>
 (pLoadP t57).bind fun t58 =>
 (pIndexAddr 2 t58 (vi 0)).bind fun t59 =>
 (pLoadN 2 t59).bind fun t60 =>
 (G 40 [t60]).bind fun t61 =>
 (fin false t61).bind fun t62 =>
 (C70_0 t52 t53 t54).bind fun t63 =>
 (hD t63 0).bind fun t64 =>
 (hD t63 1).bind fun t65 =>
 (hD t63 2).bind fun t66 =>
 (hD t63 3).bind fun t67 =>
 (hR 2 t63 4).bind fun t68 =>
 (pCells 2 t62).bind fun t69 =>
 brn (okA t67) (
 (G 68 [t55, A.agg [sv [103], A.sl 2 [[cGet t69 0, cGet t69 1], [t67, A.sl 2 t68]]]]).bind fun t70 =>
 (fin false t70).bind fun t71 =>
 (pCells 2 t71).bind fun t72 =>
 brn (okA (cGet t72 0)) (
 brn (okA (cGet t72 1)) (
 some ((A.tup [A.agg [cGet t72 0, cGet t72 1], t4], []))) (
 none)) (
 none)) (
 none)) (
 brn (okA (cGet t10 0)) (
 brn (okA (cGet t10 1)) (
 some ((A.tup [A.agg [cGet t10 0, cGet t10 1], t4], []))) (
 none)) (
 none)))) (
 none)) (
 none) :=
 (G_eq rfl Tryz.func27 rfl rfl).trans (by kernel_rfl)
theorem g28 (a0 a1 : A) : G 28 [a0, a1] =
 (pCells 2 a0).bind fun t0 =>
 (pCells 2 a1).bind fun t1 =>
 (pBin .neq false (cGet t0 0) (cGet t1 0)).bind fun t2 =>
 (pWant t2 false).bind fun t3 =>
 (pG t2 false (some (cGet t0 1))).bind fun t4 =>
 (pG t2 false (pLenL t4)).bind fun t5 =>
 (pWant t2 false).bind fun t6 =>
 (pG t2 false (some (cGet t1 1))).bind fun t7 =>
 (pG t2 false (pLenL t7)).bind fun t8 =>
 (pG t2 false (pBin .neq false t5 t8)).bind fun t9 =>
 (pPick t2 (vb true) t9).bind fun t10 =>
 (pBool t10).bind fun t11 =>
 brn t11 (
 some ((vb false, []))) (
 L28_0 (vi 0) (cGet t0 0) (cGet t0 1) (cGet t1 0) (cGet t1 1)) :=
 (G_eq rfl Tryz.func28 rfl rfl).trans (by kernel_rfl)
theorem l28_0 (x0 x1 x2 x3 x4 : A) : L28_0 x0 x1 x2 x3 x4 =
 (pLenL x2).bind fun t12 =>
 (pBin .lss false x0 t12).bind fun t13 =>
 (pBool t13).bind fun t14 =>
 brn t14 (
 (pIndexAddr 2 x2 x0).bind fun t15 =>
 (pLoadN 2 t15).bind fun t16 =>
 (pIndexAddr 2 x4 x0).bind fun t17 =>
 (pLoadN 2 t17).bind fun t18 =>
 ((G 28 [t16, t18]).bind (fin false)).bind fun t19 =>
 (pUn .not t19).bind fun t20 =>
 (pBool t20).bind fun t21 =>
 brn t21 (
 some ((vb false, []))) (
 (pBin .add false x0 (vi 1)).bind fun t22 =>
 L28_0 t22 x1 x2 x3 x4)) (
 some ((vb true, []))) :=
 (H_eq Tryz.func28 rfl).trans (by kernel_rfl)
theorem g29 (a0 a1 a2 : A) : G 29 [a0, a1, a2] =
 (pCells 2 a0).bind fun t0 =>
 (pRows 1 (cGet t0 0)).bind fun t1 =>
 brn (pFit (rLenN t1) 16) (
 brn (okA a1) (
 brn (pFit ((rLenN t1) + (rLenN [[a1]])) 16) (
 (pRows 1 (cGet t0 1)).bind fun t2 =>
 brn (pFit (rLenN t2) 8) (
 brn (okA a2) (
 brn (pFit ((rLenN t2) + (rLenN [[a2]])) 8) (
 some ((A.agg [A.sl 1 (rApp t1 [[a1]]), A.sl 1 (rApp t2 [[a2]])], []))) (
 none)) (
 none)) (
 none)) (
 none)) (
 none)) (
 none) :=
 (G_eq rfl Tryz.func29 rfl rfl).trans (by kernel_rfl)
theorem c29_0 (x0 x1 : A) (r0 r1 : List (List A)) : C29_0 x0 x1 r0 r1 =
 brn (pFit (rLenN r0) 16) (
 brn (okA x0) (
 brn (pFit ((rLenN r0) + (rLenN [[x0]])) 16) (
 brn (pFit (rLenN r1) 8) (
 brn (okA x1) (
 brn (pFit ((rLenN r1) + (rLenN [[x1]])) 8) (
 some ((A.top, [A.sl 1 r0, A.sl 1 r1, A.sl 1 (rApp r0 [[x0]]), A.sl 1 (rApp r1 [[x1]])]))) (
 none)) (
 none)) (
 none)) (
 none)) (
 none)) (
 none) :=
 (V_eq rfl Tryz.func29 rfl rfl).trans (by kernel_rfl)
theorem g30 (a0 a1 : A) : G 30 [a0, a1] =
 (pLenL a0).bind fun t0 =>
 (pBin .lss false a1 t0).bind fun t1 =>
 (pBool t1).bind fun t2 =>
 brn t2 (
 (pIndexAddr 1 a0 a1).bind fun t3 =>
 (pLoadP t3).bind fun t4 =>
 (pConv .i64 t4).bind fun t5 =>
 some ((t5, []))) (
 (pBin .mul false a1 (vi 7)).bind fun t6 =>
 (pLenL a0).bind fun t7 =>
 (pBin .add false t6 t7).bind fun t8 =>
 (pBin .rem false t8 (vi 256)).bind fun t9 =>
 some ((t9, []))) :=
 (G_eq rfl Tryz.func30 rfl rfl).trans (by kernel_rfl)
theorem g31 (a0 a1 a2 : A) : G 31 [a0, a1, a2] =
 L31_0 a0 a1 a2 (vi 0) :=
 (G_eq rfl Tryz.func31 rfl rfl).trans (by kernel_rfl)
theorem l31_0 (x0 x1 x2 x3 : A) : L31_0 x0 x1 x2 x3 =
  (pLenL x2).bind fun t0 =>
  (pBin .lss false x3 t0).bind fun t1 =>
  (pBool t1).bind fun t2 =>
  brn t2 (
    (pIndexAddr 2 x2 x3).bind fun t3 =>
    (pLoadN 2 t3).bind fun t4 =>
    (buildA (fun f =>
  match (Go.Proofs.YtnbjmmldjggkfaaGreat.K.at 31).D 93 with
  | some i =>
    match i.kind with
    | Go.Proofs.YtnbjmmldjggkfaaGreat.Abs.TK.struct fs =>
      match fs[f]? with
      | some (off, t) =>
        match (Go.Proofs.YtnbjmmldjggkfaaGreat.K.at 31).D t with
        | some j => if j.kind.known = true then some (off, j) else none
        | none => none
      | none => none
    | x => none
  | none => none) [vb false, sv [], A.sl 2 []] [(0, vb true), (1, t4)]).bind fun t5 =>
    (pCells 3 t5).bind fun t6 =>
    ((G 71 [x0, x1, A.agg [A.sl 3 [[cGet t6 0, cGet t6 1, cGet t6 2]]]]).bind (fin true)).bind fun t7 =>
    (pUn .not t7).bind fun t8 =>
    (pBool t8).bind fun t9 =>
    brn t9 (
      some ((vb false, []))) (
      (pBin .add false x3 (vi 1)).bind fun t10 =>
      L31_0 x0 x1 x2 t10)) (
    some ((vb true, []))) :=
  (H_eq Tryz.func31 rfl).trans (by kernel_rfl)
theorem g32 (a0 : A) : G 32 [a0] =
 (pCells 2 a0).bind fun t0 =>
 ((G 72 [A.agg [cGet t0 0, cGet t0 1]]).bind (fin false)).bind fun t1 =>
 (pWant t1 true).bind fun t2 =>
 (pG t1 true ((G 73 [A.agg [cGet t0 0, cGet t0 1]]).bind (fin false))).bind fun t3 =>
 (pPick t1 t3 (vb false)).bind fun t4 =>
 some ((t4, [])) :=
 (G_eq rfl Tryz.func32 rfl rfl).trans (by kernel_rfl)
theorem g33 (a0 a1 a2 a3 : A) : G 33 [a0, a1, a2, a3] =
 (pCells 2 a2).bind fun t0 =>
 (pCells 2 a3).bind fun t1 =>
 (pLenL (cGet t1 1)).bind fun t2 =>
 (pBin .eql false t2 (vi 0)).bind fun t3 =>
 (pWant t3 true).bind fun t4 =>
 (pG t3 true (some (cGet t1 0))).bind fun t5 =>
 (pG t3 true (pLenS t5)).bind fun t6 =>
 (pG t3 true (pBin .gtr false t6 (vi 0))).bind fun t7 =>
 (pPick t3 t7 (vb false)).bind fun t8 =>
 (pWant t8 true).bind fun t9 =>
 (pG t8 true (some (cGet t1 0))).bind fun t10 =>
 (pG t8 true (pIndexS t10 (vi 0))).bind fun t11 =>
 (pG t8 true (pBin .geq false t11 (vy 65))).bind fun t12 =>
 (pPick t8 t12 (vb false)).bind fun t13 =>
 (pWant t13 true).bind fun t14 =>
 (pG t13 true (some (cGet t1 0))).bind fun t15 =>
 (pG t13 true (pIndexS t15 (vi 0))).bind fun t16 =>
 (pG t13 true (pBin .leq false t16 (vy 90))).bind fun t17 =>
 (pPick t13 t17 (vb false)).bind fun t18 =>
 (pBool t18).bind fun t19 =>
 brn t19 (
 ((G 74 [A.agg [cGet t0 0, cGet t0 1], cGet t1 0]).bind (fin false)).bind fun t20 =>
 some ((t20, []))) (
 L33_0 a0 a1 (vi 0) (cGet t0 0) (cGet t0 1) (cGet t1 0) (cGet t1 1) []) :=
 (G_eq rfl Tryz.func33 rfl rfl).trans (by kernel_rfl)
theorem l33_0 (x0 x1 x2 x3 x4 x5 x6 : A) (r0 : List (List A)) : L33_0 x0 x1 x2 x3 x4 x5 x6 r0 =
 (pLenL x6).bind fun t21 =>
 (pBin .lss false x2 t21).bind fun t22 =>
 (pBool t22).bind fun t23 =>
 brn t23 (
 (pIndexAddr 2 x6 x2).bind fun t24 =>
 (pLoadN 2 t24).bind fun t25 =>
 ((G 33 [x0, x1, A.agg [x3, x4], t25]).bind (fin false)).bind fun t26 =>
 brn (okA t26) (
 brn (pFit ((rLenN r0) + (rLenN [[t26]])) 8) (
 (pBin .add false x2 (vi 1)).bind fun t27 =>
 L33_0 x0 x1 t27 x3 x4 x5 x6 (rApp r0 [[t26]])) (
 none)) (
 none)) (
 ((G 75 [x0, x5, A.sl 1 r0]).bind (fin true)).bind fun t28 =>
 (pBin .rem false t28 x1).bind fun t29 =>
 some ((t29, []))) :=
 (H_eq Tryz.func33 rfl).trans (by kernel_rfl)
theorem g34 (a0 a1 a2 a3 : A) : G 34 [a0, a1, a2, a3] =
 (pCells 2 a2).bind fun t0 =>
 (pCells 2 a3).bind fun t1 =>
 L34_0 a0 a1 (vi 0) (cGet t0 0) (cGet t0 1) (cGet t1 0) (cGet t1 1) [] :=
 (G_eq rfl Tryz.func34 rfl rfl).trans (by kernel_rfl)
theorem l34_0 (x0 x1 x2 x3 x4 x5 x6 : A) (r0 : List (List A)) : L34_0 x0 x1 x2 x3 x4 x5 x6 r0 =
 (pLenL x6).bind fun t2 =>
 (pBin .lss false x2 t2).bind fun t3 =>
 (pBool t3).bind fun t4 =>
 brn t4 (
 (pIndexAddr 2 x6 x2).bind fun t5 =>
 (pLoadN 2 t5).bind fun t6 =>
 ((G 33 [x0, x1, A.agg [x3, x4], t6]).bind (fin false)).bind fun t7 =>
 brn (okA t7) (
 brn (pFit ((rLenN r0) + (rLenN [[t7]])) 8) (
 (pBin .add false x2 (vi 1)).bind fun t8 =>
 L34_0 x0 x1 t8 x3 x4 x5 x6 (rApp r0 [[t7]])) (
 none)) (
 none)) (
 (pBin .eql false x5 (sv [61])).bind fun t9 =>
 (pWant t9 true).bind fun t10 =>
 (pG t9 true (some (rLen r0))).bind fun t11 =>
 (pG t9 true (pBin .eql false t11 (vi 2))).bind fun t12 =>
 (pPick t9 t12 (vb false)).bind fun t13 =>
 (pBool t13).bind fun t14 =>
 brn t14 (
 (pIx (rLenN r0) (vi 0)).bind fun t15 =>
 (pRowP r0 t15 0).bind fun t16 =>
 (pIx (rLenN r0) (vi 1)).bind fun t17 =>
 (pRowP r0 t17 0).bind fun t18 =>
 (pBin .eql false t16 t18).bind fun t19 =>
 some ((t19, []))) (
 (pBin .add false (sv [126]) x5).bind fun t20 =>
 ((G 75 [x0, t20, A.sl 1 r0]).bind (fin true)).bind fun t21 =>
 (pBin .rem false t21 (vi 2)).bind fun t22 =>
 (pBin .eql false t22 (vi 1)).bind fun t23 =>
 some ((t23, [])))) :=
 (H_eq Tryz.func34 rfl).trans (by kernel_rfl)
theorem g37 (a0 : A) : G 37 [a0] =
 (pCells 3 a0).bind fun t0 =>
 (pLenL (cGet t0 0)).bind fun t1 =>
 ((G 76 [t1, vi 1, vi 12]).bind (fin false)).bind fun t2 =>
 (pUn .not t2).bind fun t3 =>
 (pWant t3 false).bind fun t4 =>
 (pG t3 false (some (cGet t0 1))).bind fun t5 =>
 (pG t3 false (pLenL t5)).bind fun t6 =>
 (pWant t3 false).bind fun t7 =>
 (pG t3 false (some (cGet t0 0))).bind fun t8 =>
 (pG t3 false (pLenL t8)).bind fun t9 =>
 (pG t3 false (pBin .neq false t6 t9)).bind fun t10 =>
 (pPick t3 (vb true) t10).bind fun t11 =>
 (pWant t11 false).bind fun t12 =>
 (pG t11 false (some (cGet t0 2))).bind fun t13 =>
 (pG t11 false ((G 76 [t13, vi 1, vi 100]).bind (fin false))).bind fun t14 =>
 (pG t11 false (pUn .not t14)).bind fun t15 =>
 (pPick t11 (vb true) t15).bind fun t16 =>
 (pBool t16).bind fun t17 =>
 brn t17 (
 some ((vb false, []))) (
 L37_0 (vi 0) (cGet t0 0) (cGet t0 1) (cGet t0 2)) :=
 (G_eq rfl Tryz.func37 rfl rfl).trans (by kernel_rfl)
theorem l37_0 (x0 x1 x2 x3 : A) : L37_0 x0 x1 x2 x3 =
 (pLenL x1).bind fun t18 =>
 (pBin .lss false x0 t18).bind fun t19 =>
 (pBool t19).bind fun t20 =>
 brn t20 (
 (pIndexAddr 1 x1 x0).bind fun t21 =>
 (pLoadP t21).bind fun t22 =>
 ((G 77 [t22]).bind (fin false)).bind fun t23 =>
 (pUn .not t23).bind fun t24 =>
 (pWant t24 false).bind fun t25 =>
 (pG t24 false (some x1)).bind fun t26 =>
 (pG t24 false (some x0)).bind fun t27 =>
 (pG t24 false (pSlice 1 t26 none (some t27))).bind fun t28 =>
 (pWant t24 false).bind fun t29 =>
 (pG t24 false (some x1)).bind fun t30 =>
 (pG t24 false (some x0)).bind fun t31 =>
 (pG t24 false (pIndexAddr 1 t30 t31)).bind fun t32 =>
 (pG t24 false (pLoadP t32)).bind fun t33 =>
 (pG t24 false ((G 78 [t28, t33]).bind (fin false))).bind fun t34 =>
 (pPick t24 (vb true) t34).bind fun t35 =>
 (pWant t35 false).bind fun t36 =>
 (pG t35 false (some x2)).bind fun t37 =>
 (pG t35 false (some x0)).bind fun t38 =>
 (pG t35 false (pIndexAddr 1 t37 t38)).bind fun t39 =>
 (pG t35 false (pLoadP t39)).bind fun t40 =>
 (pWant t35 false).bind fun t41 =>
 (pG t35 false (some x3)).bind fun t42 =>
 (pG t35 false ((G 76 [t40, t42, vi 100]).bind (fin false))).bind fun t43 =>
 (pG t35 false (pUn .not t43)).bind fun t44 =>
 (pPick t35 (vb true) t44).bind fun t45 =>
 (pBool t45).bind fun t46 =>
 brn t46 (
 some ((vb false, []))) (
 (pBin .add false x0 (vi 1)).bind fun t47 =>
 L37_0 t47 x1 x2 x3)) (
 some ((vb true, []))) :=
 (H_eq Tryz.func37 rfl).trans (by kernel_rfl)
theorem g39 (a0 a1 a2 : A) : G 39 [a0, a1, a2] =
 (pCells 3 a0).bind fun t0 =>
 (pCells 2 a1).bind fun t1 =>
 (pCells 2 a2).bind fun t2 =>
 ((G 80 [A.agg [cGet t1 0, cGet t1 1], A.agg [cGet t2 0, cGet t2 1]]).bind (fin false)).bind fun t3 =>
 (pUn .not t3).bind fun t4 =>
 (pBool t4).bind fun t5 =>
 brn t5 (
 some ((vb false, []))) (
 ((G 81 [A.agg [cGet t0 0, cGet t0 1, cGet t0 2], A.agg [cGet t1 0, cGet t1 1]]).bind (fin false)).bind fun t6 =>
 ((G 81 [A.agg [cGet t0 0, cGet t0 1, cGet t0 2], A.agg [cGet t2 0, cGet t2 1]]).bind (fin false)).bind fun t7 =>
 (pBin .neq false t6 t7).bind fun t8 =>
 (pBool t8).bind fun t9 =>
 brn t9 (
 (pBin .gtr false t6 t7).bind fun t10 =>
 some ((t10, []))) (
 ((G 82 [cGet t1 0]).bind (fin false)).bind fun t11 =>
 (pWant t11 false).bind fun t12 =>
 (pG t11 false (some (cGet t2 0))).bind fun t13 =>
 (pG t11 false ((G 82 [t13]).bind (fin false))).bind fun t14 =>
 (pPick t11 (vb true) t14).bind fun t15 =>
 (pBool t15).bind fun t16 =>
 brn t16 (
 some ((vb false, []))) (
 ((G 83 [A.agg [cGet t0 0, cGet t0 1, cGet t0 2], A.agg [cGet t1 0, cGet t1 1], A.agg [cGet t2 0, cGet t2 1]]).bind (fin false)).bind fun t17 =>
 (pBin .neq false t17 (vi 0)).bind fun t18 =>
 (pBool t18).bind fun t19 =>
 brn t19 (
 (pBin .gtr false t17 (vi 0)).bind fun t20 =>
 some ((t20, []))) (
 ((G 84 [A.agg [cGet t1 0, cGet t1 1], A.agg [cGet t2 0, cGet t2 1]]).bind (fin false)).bind fun t21 =>
 (pBin .geq false t21 (vi 0)).bind fun t22 =>
 (pWant t22 true).bind fun t23 =>
 (pWant t22 true).bind fun t24 =>
 (pG t22 true (some (cGet t1 1))).bind fun t25 =>
 (pG t22 true (some t21)).bind fun t26 =>
 (pG t22 true (pIndexAddr 2 t25 t26)).bind fun t27 =>
 (pG t22 true (pLoadN 2 t27)).bind fun t28 =>
 (pWant t22 true).bind fun t29 =>
 (pG t22 true (some (cGet t2 1))).bind fun t30 =>
 (pG t22 true (some t21)).bind fun t31 =>
 (pG t22 true (pIndexAddr 2 t30 t31)).bind fun t32 =>
 (pG t22 true (pLoadN 2 t32)).bind fun t33 =>
 (pG t22 true ((G 39 [A.agg [cGet t0 0, cGet t0 1, cGet t0 2], t28, t33]).bind (fin false))).bind fun t34 =>
 (pPick t22 t34 (vb false)).bind fun t35 =>
 some ((t35, [])))))) :=
 (G_eq rfl Tryz.func39 rfl rfl).trans (by kernel_rfl)
theorem g40 (a0 : A) : G 40 [a0] =
 (pCells 2 a0).bind fun t0 =>
 brn (okA (cGet t0 0)) (
 brn (okA (cGet t0 0)) (
 L40_0 (vi 0) (cGet t0 0) (cGet t0 1) (sv []) (cGet t0 0) [] []) (
 none)) (
 none) :=
 (G_eq rfl Tryz.func40 rfl rfl).trans (by kernel_rfl)
theorem l40_0 (x0 x1 x2 x3 x4 : A) (r0 r1 : List (List A)) : L40_0 x0 x1 x2 x3 x4 r0 r1 =
 (pLenL x2).bind fun t1 =>
 (pBin .lss false x0 t1).bind fun t2 =>
 (pBool t2).bind fun t3 =>
 brn t3 (
 (pIndexAddr 2 x2 x0).bind fun t4 =>
 (pLoadN 2 t4).bind fun t5 =>
 (G 40 [t5]).bind fun t6 =>
 (fin false t6).bind fun t7 =>
 (pCells 2 t7).bind fun t8 =>
 brn (pFit ((rLenN r1) + (rLenN [[cGet t8 0, cGet t8 1]])) 40) (
 (pBin .add false x0 (vi 1)).bind fun t9 =>
 L40_0 t9 x1 x2 x3 x4 r0 (rApp r1 [[cGet t8 0, cGet t8 1]])) (
 none)) (
 brn (okA x4) (
 some ((A.agg [x4, A.sl 2 r1], []))) (
 none)) :=
 (H_eq Tryz.func40 rfl).trans (by kernel_rfl)
theorem c40_0 (x0 x1 : A) : C40_0 x0 x1 =
 brn (okA x0) (
 brn (okA x1) (
 brn (okA x0) (
 brn (okA x0) (
 L40c0_0 (vi 0) x0 x1 (sv []) x0 [] []) (
 none)) (
 none)) (
 none)) (
 none) :=
 (V_eq rfl Tryz.func40 rfl rfl).trans (by kernel_rfl)
theorem l40c0_0 (x0 x1 x2 x3 x4 : A) (r0 r1 : List (List A)) : L40c0_0 x0 x1 x2 x3 x4 r0 r1 =
 (pLenL x2).bind fun t0 =>
 (pBin .lss false x0 t0).bind fun t1 =>
 (pBool t1).bind fun t2 =>
 brn t2 (
 (pIndexAddr 2 x2 x0).bind fun t3 =>
 (pLoadN 2 t3).bind fun t4 =>
 (G 40 [t4]).bind fun t5 =>
 (fin false t5).bind fun t6 =>
 (pCells 2 t6).bind fun t7 =>
 brn (pFit ((rLenN r1) + (rLenN [[cGet t7 0, cGet t7 1]])) 40) (
 (pBin .add false x0 (vi 1)).bind fun t8 =>
 L40c0_0 t8 x1 x2 x3 x4 r0 (rApp r1 [[cGet t7 0, cGet t7 1]])) (
 none)) (
 brn (okA x4) (
 some ((A.top, [x4, A.sl 2 r1]))) (
 none)) :=
 (H_eq Tryz.func40 rfl).trans (by kernel_rfl)
theorem g43 (a0 : A) : G 43 [a0] =
 (pCells 2 a0).bind fun t0 =>
 (pBin .eql false (cGet t0 0) (sv [61])).bind fun t1 =>
 some ((t1, [])) :=
 (G_eq rfl Tryz.func43 rfl rfl).trans (by kernel_rfl)
theorem g46 (a0 : A) : G 46 [a0] =
 (pCells 2 a0).bind fun t0 =>
 (C89_0 (cGet t0 1)).bind fun t1 =>
 (hR 2 t1 0).bind fun t2 =>
 brn (okA (cGet t0 0)) (
 brn (okA (cGet t0 0)) (
 some ((A.agg [cGet t0 0, A.sl 2 t2], []))) (
 none)) (
 none) :=
 (G_eq rfl Tryz.func46 rfl rfl).trans (by kernel_rfl)
theorem c46_0 (x0 x1 : A) : C46_0 x0 x1 =
 brn (okA x0) (
 brn (okA x1) (
 (C89_0 x1).bind fun t0 =>
 (hR 2 t0 0).bind fun t1 =>
 brn (okA x0) (
 brn (okA x0) (
 some ((A.top, [x0, A.sl 2 t1]))) (
 none)) (
 none)) (
 none)) (
 none) :=
 (V_eq rfl Tryz.func46 rfl rfl).trans (by kernel_rfl)
theorem g47 (a0 a1 a2 : A) : G 47 [a0, a1, a2] =
 (pCells 3 a0).bind fun t0 =>
 (pCells 2 a1).bind fun t1 =>
 (pCells 2 a2).bind fun t2 =>
 ((G 58 [A.agg [cGet t1 0, cGet t1 1], A.agg [cGet t2 0, cGet t2 1]]).bind (fin false)).bind fun t3 =>
 ((G 90 [t3, A.fn 91 [A.elt [cGet t0 0, cGet t0 1, cGet t0 2] 0, A.elt [cGet t1 0, cGet t1 1] 0, A.elt [cGet t2 0, cGet t2 1] 0], A.fn 93 [A.elt [cGet t0 0, cGet t0 1, cGet t0 2] 0, A.elt [cGet t2 0, cGet t2 1] 0, A.elt [cGet t1 0, cGet t1 1] 0]]).bind (fin true)).bind fun t4 =>
 some ((t4, [])) :=
 (G_eq rfl Tryz.func47 rfl rfl).trans (by kernel_rfl)
theorem g53 (a0 : A) : G 53 [a0] =
 (pCells 2 a0).bind fun t0 =>
 (pBin .eql false (cGet t0 0) (sv [61])).bind fun t1 =>
 (pBool t1).bind fun t2 =>
 brn t2 (
 (pLenL (cGet t0 1)).bind fun t3 =>
 (pBin .eql false t3 (vi 2)).bind fun t4 =>
 (pWant t4 true).bind fun t5 =>
 (pG t4 true ((G 94 [A.agg [cGet t0 0, cGet t0 1]]).bind (fin false))).bind fun t6 =>
 (pPick t4 t6 (vb false)).bind fun t7 =>
 (pWant t7 true).bind fun t8 =>
 (pG t7 true (some (cGet t0 1))).bind fun t9 =>
 (pG t7 true (pIndexAddr 2 t9 (vi 0))).bind fun t10 =>
 (pG t7 true (pLoadN 2 t10)).bind fun t11 =>
 (pG t7 true ((G 95 [t11]).bind (fin false))).bind fun t12 =>
 (pPick t7 t12 (vb false)).bind fun t13 =>
 (pWant t13 true).bind fun t14 =>
 (pG t13 true (some (cGet t0 1))).bind fun t15 =>
 (pG t13 true (pIndexAddr 2 t15 (vi 1))).bind fun t16 =>
 (pG t13 true (pLoadN 2 t16)).bind fun t17 =>
 (pG t13 true ((G 95 [t17]).bind (fin false))).bind fun t18 =>
 (pPick t13 t18 (vb false)).bind fun t19 =>
 some ((t19, []))) (
 ((G 77 [cGet t0 0]).bind (fin false)).bind fun t20 =>
 (pWant t20 true).bind fun t21 =>
 (pG t20 true ((G 60 [A.agg [cGet t0 0, cGet t0 1]]).bind (fin false))).bind fun t22 =>
 (pPick t20 t22 (vb false)).bind fun t23 =>
 some ((t23, []))) :=
 (G_eq rfl Tryz.func53 rfl rfl).trans (by kernel_rfl)
theorem g54 (a0 : A) : G 54 [a0] =
 L54_0 a0 (vi 0) :=
 (G_eq rfl Tryz.func54 rfl rfl).trans (by kernel_rfl)
theorem l54_0 (x0 x1 : A) : L54_0 x0 x1 =
 (pLenL x0).bind fun t0 =>
 (pBin .lss false x1 t0).bind fun t1 =>
 (pBool t1).bind fun t2 =>
 brn t2 (
 (pIndexAddr 2 x0 x1).bind fun t3 =>
 (pLoadN 2 t3).bind fun t4 =>
 ((G 96 [t4]).bind (fin false)).bind fun t5 =>
 (pUn .not t5).bind fun t6 =>
 (pBool t6).bind fun t7 =>
 brn t7 (
 some ((vb false, []))) (
 (pBin .add false x1 (vi 1)).bind fun t8 =>
 L54_0 x0 t8)) (
 (pLenL x0).bind fun t9 =>
 (pBin .leq false t9 (vi 10)).bind fun t10 =>
 some ((t10, []))) :=
 (H_eq Tryz.func54 rfl).trans (by kernel_rfl)
theorem g55 (a0 a1 a2 : A) : G 55 [a0, a1, a2] =
 (pCells 2 a0).bind fun t0 =>
 (G 40 [A.agg [cGet t0 0, cGet t0 1]]).bind fun t1 =>
 (fin false t1).bind fun t2 =>
 (pCells 2 t2).bind fun t3 =>
 L55_0 a1 a2 (vi 0) (sv []) (cGet t3 0) (cGet t3 1) [] :=
 (G_eq rfl Tryz.func55 rfl rfl).trans (by kernel_rfl)
theorem l55_0 (x0 x1 x2 x3 x4 x5 : A) (r0 : List (List A)) : L55_0 x0 x1 x2 x3 x4 x5 r0 =
 ((G 97 [A.agg [x4, x5], x0, x1]).bind (fin false)).bind fun t4 =>
 (pTup t4 0).bind fun t5 =>
 (pTup t4 1).bind fun t6 =>
 (pCells 2 t5).bind fun t7 =>
 (pUn .not t6).bind fun t8 =>
 (pBool t8).bind fun t9 =>
 brn t9 (
 brn (okA x4) (
 brn (okA x5) (
 some ((A.tup [A.agg [x4, x5], x2, vb true], []))) (
 none)) (
 none)) (
 (pBin .eql false x2 (vi 50)).bind fun t10 =>
 (pWant t10 false).bind fun t11 =>
 (pG t10 false ((G 59 [A.agg [cGet t7 0, cGet t7 1]]).bind (fin false))).bind fun t12 =>
 (pG t10 false (pUn .not t12)).bind fun t13 =>
 (pPick t10 (vb true) t13).bind fun t14 =>
 (pBool t14).bind fun t15 =>
 brn t15 (
 some ((A.tup [A.agg [sv [], A.sl 2 []], vi 0, vb false], []))) (
 brn (okA (cGet t7 0)) (
 brn (okA (cGet t7 1)) (
 (pBin .add false x2 (vi 1)).bind fun t16 =>
 L55_0 x0 x1 t16 x3 (cGet t7 0) (cGet t7 1) r0) (
 none)) (
 none))) :=
 (H_eq Tryz.func55 rfl).trans (by kernel_rfl)
theorem g56 (a0 a1 : A) : G 56 [a0, a1] =
 (pCells 2 a0).bind fun t0 =>
 (pCells 2 a1).bind fun t1 =>
 (pBin .neq false (cGet t0 0) (cGet t1 0)).bind fun t2 =>
 (pWant t2 false).bind fun t3 =>
 (pG t2 false (some (cGet t0 1))).bind fun t4 =>
 (pG t2 false (pLenL t4)).bind fun t5 =>
 (pWant t2 false).bind fun t6 =>
 (pG t2 false (some (cGet t1 1))).bind fun t7 =>
 (pG t2 false (pLenL t7)).bind fun t8 =>
 (pG t2 false (pBin .neq false t5 t8)).bind fun t9 =>
 (pPick t2 (vb true) t9).bind fun t10 =>
 (pBool t10).bind fun t11 =>
 brn t11 (
 some ((vb false, []))) (
 L56_0 (vi 0) (cGet t0 0) (cGet t0 1) (cGet t1 0) (cGet t1 1)) :=
 (G_eq rfl Tryz.func56 rfl rfl).trans (by kernel_rfl)
theorem l56_0 (x0 x1 x2 x3 x4 : A) : L56_0 x0 x1 x2 x3 x4 =
 (pLenL x2).bind fun t12 =>
 (pBin .lss false x0 t12).bind fun t13 =>
 (pBool t13).bind fun t14 =>
 brn t14 (
 (pIndexAddr 2 x2 x0).bind fun t15 =>
 (pLoadN 2 t15).bind fun t16 =>
 (pIndexAddr 2 x4 x0).bind fun t17 =>
 (pLoadN 2 t17).bind fun t18 =>
 ((G 56 [t16, t18]).bind (fin false)).bind fun t19 =>
 (pUn .not t19).bind fun t20 =>
 (pBool t20).bind fun t21 =>
 brn t21 (
 some ((vb false, []))) (
 (pBin .add false x0 (vi 1)).bind fun t22 =>
 L56_0 t22 x1 x2 x3 x4)) (
 some ((vb true, []))) :=
 (H_eq Tryz.func56 rfl).trans (by kernel_rfl)
theorem g57 (a0 : A) : G 57 [a0] =
 (pCells 2 a0).bind fun t0 =>
 ((G 43 [A.agg [cGet t0 0, cGet t0 1]]).bind (fin false)).bind fun t1 =>
 (pBool t1).bind fun t2 =>
 brn t2 (
 (pLenL (cGet t0 1)).bind fun t3 =>
 (pBin .eql false t3 (vi 2)).bind fun t4 =>
 (pWant t4 true).bind fun t5 =>
 (pG t4 true ((G 72 [A.agg [cGet t0 0, cGet t0 1]]).bind (fin false))).bind fun t6 =>
 (pPick t4 t6 (vb false)).bind fun t7 =>
 (pWant t7 true).bind fun t8 =>
 (pG t7 true (some (cGet t0 1))).bind fun t9 =>
 (pG t7 true (pIndexAddr 2 t9 (vi 0))).bind fun t10 =>
 (pG t7 true (pLoadN 2 t10)).bind fun t11 =>
 (pG t7 true ((G 73 [t11]).bind (fin false))).bind fun t12 =>
 (pPick t7 t12 (vb false)).bind fun t13 =>
 (pWant t13 true).bind fun t14 =>
 (pG t13 true (some (cGet t0 1))).bind fun t15 =>
 (pG t13 true (pIndexAddr 2 t15 (vi 1))).bind fun t16 =>
 (pG t13 true (pLoadN 2 t16)).bind fun t17 =>
 (pG t13 true ((G 73 [t17]).bind (fin false))).bind fun t18 =>
 (pPick t13 t18 (vb false)).bind fun t19 =>
 some ((t19, []))) (
 ((G 86 [cGet t0 0]).bind (fin false)).bind fun t20 =>
 (pWant t20 true).bind fun t21 =>
 (pG t20 true ((G 32 [A.agg [cGet t0 0, cGet t0 1]]).bind (fin false))).bind fun t22 =>
 (pPick t20 t22 (vb false)).bind fun t23 =>
 some ((t23, []))) :=
 (G_eq rfl Tryz.func57 rfl rfl).trans (by kernel_rfl)
theorem g58 (a0 a1 : A) : G 58 [a0, a1] =
 (pCells 2 a0).bind fun t0 =>
 (pCells 2 a1).bind fun t1 =>
 (pBin .eql false (cGet t0 0) (cGet t1 0)).bind fun t2 =>
 (pWant t2 true).bind fun t3 =>
 (pG t2 true (some (cGet t0 1))).bind fun t4 =>
 (pWant t2 true).bind fun t5 =>
 (pG t2 true (some (cGet t1 1))).bind fun t6 =>
 (pG t2 true ((G 98 [t4, t6, A.fn 58 []]).bind (fin false))).bind fun t7 =>
 (pPick t2 t7 (vb false)).bind fun t8 =>
 some ((t8, [])) :=
 (G_eq rfl Tryz.func58 rfl rfl).trans (by kernel_rfl)
theorem g59 (a0 : A) : G 59 [a0] =
 (pCells 2 a0).bind fun t0 =>
 ((G 60 [A.agg [cGet t0 0, cGet t0 1]]).bind (fin false)).bind fun t1 =>
 (pWant t1 false).bind fun t2 =>
 (pG t1 false ((G 53 [A.agg [cGet t0 0, cGet t0 1]]).bind (fin false))).bind fun t3 =>
 (pPick t1 (vb true) t3).bind fun t4 =>
 some ((t4, [])) :=
 (G_eq rfl Tryz.func59 rfl rfl).trans (by kernel_rfl)
theorem g60 (a0 : A) : G 60 [a0] =
 (pCells 2 a0).bind fun t0 =>
 ((G 94 [A.agg [cGet t0 0, cGet t0 1]]).bind (fin false)).bind fun t1 =>
 (pWant t1 true).bind fun t2 =>
 (pG t1 true ((G 95 [A.agg [cGet t0 0, cGet t0 1]]).bind (fin false))).bind fun t3 =>
 (pPick t1 t3 (vb false)).bind fun t4 =>
 some ((t4, [])) :=
 (G_eq rfl Tryz.func60 rfl rfl).trans (by kernel_rfl)
theorem g61 (a0 : A) : G 61 [a0] =
 (pCells 2 a0).bind fun t0 =>
 ((G 32 [A.agg [cGet t0 0, cGet t0 1]]).bind (fin false)).bind fun t1 =>
 (pWant t1 false).bind fun t2 =>
 (pG t1 false ((G 43 [A.agg [cGet t0 0, cGet t0 1]]).bind (fin false))).bind fun t3 =>
 (pG t1 false (some t3)).bind fun t4 =>
 (pWant t4 true).bind fun t5 =>
 (pG t4 true ((G 57 [A.agg [cGet t0 0, cGet t0 1]]).bind (fin false))).bind fun t6 =>
 (pG t1 false (pPick t4 t6 (vb false))).bind fun t7 =>
 (pPick t1 (vb true) t7).bind fun t8 =>
 some ((t8, [])) :=
 (G_eq rfl Tryz.func61 rfl rfl).trans (by kernel_rfl)
theorem g62 (a0 : A) : G 62 [a0] =
 (pLenL a0).bind fun t0 =>
 (pBin .leq false t0 (vi 10)).bind fun t1 =>
 (pG t1 true (some a0)).bind fun t2 =>
 (pG t1 true ((G 99 [t2, A.fn 100 []]).bind (fin false))).bind fun t3 =>
 (pG t1 true (pUn .not t3)).bind fun t4 =>
 (pPick t1 t4 (vb false)).bind fun t5 =>
 some ((t5, [])) :=
 (G_eq rfl Tryz.func62 rfl rfl).trans (by kernel_rfl)
theorem g63 (a0 a1 a2 : A) : G 63 [a0, a1, a2] =
 (pCells 2 a0).bind fun t0 =>
 ((G 46 [A.agg [cGet t0 0, cGet t0 1]]).bind (fin false)).bind fun t1 =>
 (pCells 2 t1).bind fun t2 =>
 L63_0 a1 a2 (vi 0) (sv []) (cGet t2 0) (cGet t2 1) [] :=
 (G_eq rfl Tryz.func63 rfl rfl).trans (by kernel_rfl)
theorem l63_0 (x0 x1 x2 x3 x4 x5 : A) (r0 : List (List A)) : L63_0 x0 x1 x2 x3 x4 x5 r0 =
 ((G 102 [A.agg [x4, x5], x0, x1]).bind (fin false)).bind fun t3 =>
 (pTup t3 0).bind fun t4 =>
 (pTup t3 1).bind fun t5 =>
 (pCells 2 t4).bind fun t6 =>
 (pUn .not t5).bind fun t7 =>
 (pBool t7).bind fun t8 =>
 brn t8 (
 brn (okA x4) (
 brn (okA x5) (
 some ((A.tup [A.agg [x4, x5], x2, vb true], []))) (
 none)) (
 none)) (
 (pBin .eql false x2 (vi 50)).bind fun t9 =>
 (pWant t9 false).bind fun t10 =>
 (pG t9 false ((G 72 [A.agg [cGet t6 0, cGet t6 1]]).bind (fin false))).bind fun t11 =>
 (pG t9 false (pUn .not t11)).bind fun t12 =>
 (pPick t9 (vb true) t12).bind fun t13 =>
 (pBool t13).bind fun t14 =>
 brn t14 (
 some ((A.tup [A.agg [sv [], A.sl 2 []], vi 0, vb false], []))) (
 brn (okA (cGet t6 0)) (
 brn (okA (cGet t6 1)) (
 (pBin .add false x2 (vi 1)).bind fun t15 =>
 L63_0 x0 x1 t15 x3 (cGet t6 0) (cGet t6 1) r0) (
 none)) (
 none))) :=
 (H_eq Tryz.func63 rfl).trans (by kernel_rfl)
theorem c65_0 (x0 x1 x2 : A) : C65_0 x0 x1 x2 =
 (C103_0 (vi 4) x0 x1 x2).bind fun t0 =>
 (hD t0 0).bind fun t1 =>
 (hD t0 1).bind fun t2 =>
 (hD t0 2).bind fun t3 =>
 (hD t0 3).bind fun t4 =>
 L65c0_0 t4 t1 t2 t3 [] :=
 (V_eq rfl Tryz.func65 rfl rfl).trans (by kernel_rfl)
theorem l65c0_0 (x0 x1 x2 x3 : A) (r0 : List (List A)) : L65c0_0 x0 x1 x2 x3 r0 =
 (pBin .gtr false x0 (vi 0)).bind fun t5 =>
 (pBool t5).bind fun t6 =>
 brn t6 (
 (C104_0 x1 x2 x3).bind fun t7 =>
 (hD t7 0).bind fun t8 =>
 (hD t7 1).bind fun t9 =>
 (hD t7 2).bind fun t10 =>
 (hD t7 3).bind fun t11 =>
 (pCells 2 t11).bind fun t12 =>
 ((G 96 [A.agg [cGet t12 0, cGet t12 1]]).bind (fin false)).bind fun t13 =>
 (pWant t13 false).bind fun t14 =>
 (pWant t13 false).bind fun t15 =>
 brn t15 (
 (C67_0 (vi 12) t8 t9 t10).bind fun t16 =>
 (hD t16 0).bind fun t17 =>
 (hD t16 1).bind fun t18 =>
 (hD t16 2).bind fun t19 =>
 (hD t16 3).bind fun t20 =>
 (pPick t13 (vb true) t20).bind fun t21 =>
 (pBool t21).bind fun t22 =>
 brn t22 (
 brn (okA (cGet t12 0)) (
 brn (okA (cGet t12 1)) (
 brn (pFit ((rLenN r0) + (rLenN [[cGet t12 0, cGet t12 1]])) 40) (
 (pBin .sub false x0 (vi 1)).bind fun t23 =>
 L65c0_0 t23 t17 t18 t19 (rApp r0 [[cGet t12 0, cGet t12 1]])) (
 none)) (
 none)) (
 none)) (
 (pBin .sub false x0 (vi 1)).bind fun t24 =>
 L65c0_0 t24 t17 t18 t19 r0)) (
 (pPick t13 (vb true) (A.val undef)).bind fun t25 =>
 (pBool t25).bind fun t26 =>
 brn t26 (
 brn (okA (cGet t12 0)) (
 brn (okA (cGet t12 1)) (
 brn (pFit ((rLenN r0) + (rLenN [[cGet t12 0, cGet t12 1]])) 40) (
 (pBin .sub false x0 (vi 1)).bind fun t27 =>
 L65c0_0 t27 t8 t9 t10 (rApp r0 [[cGet t12 0, cGet t12 1]])) (
 none)) (
 none)) (
 none)) (
 (pBin .sub false x0 (vi 1)).bind fun t28 =>
 L65c0_0 t28 t8 t9 t10 r0))) (
 (C67_0 (vi 24) x1 x2 x3).bind fun t29 =>
 (hD t29 0).bind fun t30 =>
 (hD t29 1).bind fun t31 =>
 (hD t29 2).bind fun t32 =>
 (hD t29 3).bind fun t33 =>
 (pBool t33).bind fun t34 =>
 brn t34 (
 L65c0_1 t30 t31 t32 r0) (
 some ((A.top, [t30, t31, t32, A.sl 2 r0])))) :=
 (H_eq Tryz.func65 rfl).trans (by kernel_rfl)
theorem l65c0_1 (x0 x1 x2 : A) (r0 : List (List A)) : L65c0_1 x0 x1 x2 r0 =
 (C103_0 (vi 2) x0 x1 x2).bind fun t35 =>
 (hD t35 0).bind fun t36 =>
 (hD t35 1).bind fun t37 =>
 (hD t35 2).bind fun t38 =>
 (hD t35 3).bind fun t39 =>
 (pBin .add false (vi 10) t39).bind fun t40 =>
 (pBin .lss false (rLen r0) t40).bind fun t41 =>
 (pBool t41).bind fun t42 =>
 brn t42 (
 brn (pFit ((rLenN r0) + (rLenN [[sv [61], A.sl 2 [[sv [102], A.sl 2 [[sv [88], A.sl 2 []]]], [sv [88], A.sl 2 []]]]])) 40) (
 L65c0_1 t36 t37 t38 (rApp r0 [[sv [61], A.sl 2 [[sv [102], A.sl 2 [[sv [88], A.sl 2 []]]], [sv [88], A.sl 2 []]]]])) (
 none)) (
 some ((A.top, [t36, t37, t38, A.sl 2 r0]))) :=
 (H_eq Tryz.func65 rfl).trans (by kernel_rfl)
theorem c66_0 (x0 x1 x2 : A) : C66_0 x0 x1 x2 =
 (C67_0 (vi 3) x0 x1 x2).bind fun t0 =>
 (hD t0 0).bind fun t1 =>
 (hD t0 1).bind fun t2 =>
 (hD t0 2).bind fun t3 =>
 (hD t0 3).bind fun t4 =>
 (pBool t4).bind fun t5 =>
 brn t5 (
 (C105_0 t1 t2 t3).bind fun t6 =>
 (hD t6 0).bind fun t7 =>
 (hD t6 1).bind fun t8 =>
 (hD t6 2).bind fun t9 =>
 (hD t6 3).bind fun t10 =>
 (hR 2 t6 4).bind fun t11 =>
 brn (okA t10) (
 (C67_0 (vi 12) t7 t8 t9).bind fun t12 =>
 (hD t12 0).bind fun t13 =>
 (hD t12 1).bind fun t14 =>
 (hD t12 2).bind fun t15 =>
 (hD t12 3).bind fun t16 =>
 (pBool t16).bind fun t17 =>
 brn t17 (
 (C70_0 t13 t14 t15).bind fun t18 =>
 (hD t18 0).bind fun t19 =>
 (hD t18 1).bind fun t20 =>
 (hD t18 2).bind fun t21 =>
 (hD t18 3).bind fun t22 =>
 (hR 2 t18 4).bind fun t23 =>
 brn (okA t22) (
 brn (pFit ((rLenN t11) + (rLenN [[t22, A.sl 2 t23]])) 40) (
 brn (okA t10) (
 some ((A.top, [t19, t20, t21, A.agg [t10, A.sl 2 (rApp t11 [[t22, A.sl 2 t23]])]]))) (
 none)) (
 none)) (
 none)) (
 brn (okA t10) (
 some ((A.top, [t13, t14, t15, A.agg [t10, A.sl 2 t11]]))) (
 none))) (
 none)) (
 (C106_0 t1 t2 t3).bind fun t24 =>
 (hD t24 0).bind fun t25 =>
 (hD t24 1).bind fun t26 =>
 (hD t24 2).bind fun t27 =>
 (hD t24 3).bind fun t28 =>
 (pCells 2 t28).bind fun t29 =>
 some ((A.top, [t25, t26, t27, A.agg [cGet t29 0, cGet t29 1]]))) :=
 (V_eq rfl Tryz.func66 rfl rfl).trans (by kernel_rfl)
theorem c67_0 (x0 x1 x2 x3 : A) : C67_0 x0 x1 x2 x3 =
 (C103_0 x0 x1 x2 x3).bind fun t0 =>
 (hD t0 0).bind fun t1 =>
 (hD t0 1).bind fun t2 =>
 (hD t0 2).bind fun t3 =>
 (hD t0 3).bind fun t4 =>
 (pBin .eql false t4 (vi 0)).bind fun t5 =>
 some ((A.top, [t1, t2, t3, t5])) :=
 (V_eq rfl Tryz.func67 rfl rfl).trans (by kernel_rfl)
theorem g68 (a0 a1 : A) : G 68 [a0, a1] =
 (pCells 1 a0).bind fun t0 =>
 (pCells 2 a1).bind fun t1 =>
 ((G 82 [cGet t1 0]).bind (fin false)).bind fun t2 =>
 (pBool t2).bind fun t3 =>
 brn t3 (
 ((G 107 [A.agg [cGet t0 0], cGet t1 0]).bind (fin false)).bind fun t4 =>
 (pBin .geq false t4 (vi 0)).bind fun t5 =>
 (pBool t5).bind fun t6 =>
 brn t6 (
 (pIndexAddr 3 (cGet t0 0) t4).bind fun t7 =>
 (pAdd t7 1).bind fun t8 =>
 (pLoadN 2 t8).bind fun t9 =>
 (G 40 [t9]).bind fun t10 =>
 (fin false t10).bind fun t11 =>
 (pCells 2 t11).bind fun t12 =>
 some ((A.agg [cGet t12 0, cGet t12 1], []))) (
 brn (okA (cGet t1 0)) (
 brn (okA (cGet t1 0)) (
 some ((A.agg [cGet t1 0, A.sl 2 []], []))) (
 none)) (
 none))) (
 brn (okA (cGet t1 0)) (
 brn (okA (cGet t1 0)) (
 L68_0 (vi 0) (cGet t0 0) (cGet t1 0) (cGet t1 1) (sv []) (cGet t1 0) [] []) (
 none)) (
 none)) :=
 (G_eq rfl Tryz.func68 rfl rfl).trans (by kernel_rfl)
theorem l68_0 (x0 x1 x2 x3 x4 x5 : A) (r0 r1 : List (List A)) : L68_0 x0 x1 x2 x3 x4 x5 r0 r1 =
 (pLenL x3).bind fun t13 =>
 (pBin .lss false x0 t13).bind fun t14 =>
 (pBool t14).bind fun t15 =>
 brn t15 (
 (pIndexAddr 2 x3 x0).bind fun t16 =>
 (pLoadN 2 t16).bind fun t17 =>
 (G 68 [A.agg [x1], t17]).bind fun t18 =>
 (fin false t18).bind fun t19 =>
 (pCells 2 t19).bind fun t20 =>
 brn (pFit ((rLenN r1) + (rLenN [[cGet t20 0, cGet t20 1]])) 40) (
 (pBin .add false x0 (vi 1)).bind fun t21 =>
 L68_0 t21 x1 x2 x3 x4 x5 r0 (rApp r1 [[cGet t20 0, cGet t20 1]])) (
 none)) (
 brn (okA x5) (
 some ((A.agg [x5, A.sl 2 r1], []))) (
 none)) :=
 (H_eq Tryz.func68 rfl).trans (by kernel_rfl)
theorem c69_0 (x0 x1 x2 : A) : C69_0 x0 x1 x2 =
 L69c0_0 (rLen [[sv [85]], [sv [88]], [sv [89]], [sv [90]]]) (vi 0) x0 x1 x2 [[sv [85]], [sv [88]], [sv [89]], [sv [90]]] [] [] :=
 (V_eq rfl Tryz.func69 rfl rfl).trans (by kernel_rfl)
theorem l69c0_0 (x0 x1 x2 x3 x4 : A) (r0 r1 r2 : List (List A)) : L69c0_0 x0 x1 x2 x3 x4 r0 r1 r2 =
 (pBin .lss false x1 x0).bind fun t0 =>
 (pBool t0).bind fun t1 =>
 brn t1 (
 (pIx (rLenN r0) x1).bind fun t2 =>
 (pRowP r0 t2 0).bind fun t3 =>
 (C67_0 (vi 2) x2 x3 x4).bind fun t4 =>
 (hD t4 0).bind fun t5 =>
 (hD t4 1).bind fun t6 =>
 (hD t4 2).bind fun t7 =>
 (hD t4 3).bind fun t8 =>
 (pBool t8).bind fun t9 =>
 brn t9 (
 (C70_0 t5 t6 t7).bind fun t10 =>
 (hD t10 0).bind fun t11 =>
 (hD t10 1).bind fun t12 =>
 (hD t10 2).bind fun t13 =>
 (hD t10 3).bind fun t14 =>
 (hR 2 t10 4).bind fun t15 =>
 (C108_1 t3 t14 r2 t15).bind fun t16 =>
 (hR 3 t16 0).bind fun t17 =>
 (pBin .add false x1 (vi 1)).bind fun t18 =>
 L69c0_0 x0 t18 t11 t12 t13 r0 r1 t17) (
 (pBin .add false x1 (vi 1)).bind fun t19 =>
 L69c0_0 x0 t19 t5 t6 t7 r0 r1 r2)) (
 some ((A.top, [x2, x3, x4, A.agg [A.sl 3 r2]]))) :=
 (H_eq Tryz.func69 rfl).trans (by kernel_rfl)
theorem c70_0 (x0 x1 x2 : A) : C70_0 x0 x1 x2 =
 (C103_0 (vi 3) x0 x1 x2).bind fun t0 =>
 (hD t0 0).bind fun t1 =>
 (hD t0 1).bind fun t2 =>
 (hD t0 2).bind fun t3 =>
 (hD t0 3).bind fun t4 =>
 (pBin .add false (vi 1) t4).bind fun t5 =>
 (C109_0 t5 t1 t2 t3).bind fun t6 =>
 (hD t6 0).bind fun t7 =>
 (hD t6 1).bind fun t8 =>
 (hD t6 2).bind fun t9 =>
 (hD t6 3).bind fun t10 =>
 (hR 2 t6 4).bind fun t11 =>
 brn (okA t10) (
 some ((A.top, [t7, t8, t9, t10, A.sl 2 t11]))) (
 none) :=
 (V_eq rfl Tryz.func70 rfl rfl).trans (by kernel_rfl)
theorem g71 (a0 a1 a2 : A) : G 71 [a0, a1, a2] =
 (pCells 1 a2).bind fun t0 =>
 L71_0 a0 a1 (vi 0) (cGet t0 0) [] :=
 (G_eq rfl Tryz.func71 rfl rfl).trans (by kernel_rfl)
theorem l71_0 (x0 x1 x2 x3 : A) (r0 : List (List A)) : L71_0 x0 x1 x2 x3 r0 =
 (pLenL x3).bind fun t1 =>
 (pBin .lss false x2 t1).bind fun t2 =>
 (pBool t2).bind fun t3 =>
 brn t3 (
 (pIndexAddr 3 x3 x2).bind fun t4 =>
 (pAdd t4 1).bind fun t5 =>
 (pLoadN 2 t5).bind fun t6 =>
 (C110_0 t6 r0).bind fun t7 =>
 (hR 1 t7 0).bind fun t8 =>
 (pBin .add false x2 (vi 1)).bind fun t9 =>
 L71_0 x0 x1 t9 x3 t8) (
 L71_1 x0 x1 (vi 1) (vi 0) x3 r0) :=
 (H_eq Tryz.func71 rfl).trans (by kernel_rfl)
theorem l71_1 (x0 x1 x2 x3 x4 : A) (r0 : List (List A)) : L71_1 x0 x1 x2 x3 x4 r0 =
 (pBin .lss false x3 (rLen r0)).bind fun t10 =>
 (pG t10 true (some x2)).bind fun t11 =>
 (pG t10 true (pBin .lss false t11 (vi 200))).bind fun t12 =>
 (pPick t10 t12 (vb false)).bind fun t13 =>
 (pBool t13).bind fun t14 =>
 brn t14 (
 (pBin .mul false x2 x1).bind fun t15 =>
 (pBin .add false x3 (vi 1)).bind fun t16 =>
 L71_1 x0 x1 t15 t16 x4 r0) (
 L71_2 x0 x1 x2 (vi 0) x4 r0) :=
 (H_eq Tryz.func71 rfl).trans (by kernel_rfl)
theorem l71_2 (x0 x1 x2 x3 x4 : A) (r0 : List (List A)) : L71_2 x0 x1 x2 x3 x4 r0 =
 (pBin .lss false x3 x2).bind fun t17 =>
 (pBool t17).bind fun t18 =>
 brn t18 (
 L71_3 x0 x1 x2 x3 x3 (vi 0) x4 r0 [] []) (
 some ((vb true, []))) :=
 (H_eq Tryz.func71 rfl).trans (by kernel_rfl)
theorem l71_3 (x0 x1 x2 x3 x4 x5 x6 : A) (r0 r1 r2 : List (List A)) : L71_3 x0 x1 x2 x3 x4 x5 x6 r0 r1 r2 =
 (pBin .lss false x5 (rLen r0)).bind fun t19 =>
 (pBool t19).bind fun t20 =>
 brn t20 (
 (pIx (rLenN r0) x5).bind fun t21 =>
 (pRowP r0 t21 0).bind fun t22 =>
 (pBin .rem false x4 x1).bind fun t23 =>
 (C29_0 t22 t23 r1 r2).bind fun t24 =>
 (hR 1 t24 0).bind fun t25 =>
 (hR 1 t24 1).bind fun t26 =>
 (hR 1 t24 2).bind fun t27 =>
 (hR 1 t24 3).bind fun t28 =>
 (pBin .quo false x4 x1).bind fun t29 =>
 (pBin .add false x5 (vi 1)).bind fun t30 =>
 L71_3 x0 x1 x2 x3 t29 t30 x6 r0 t27 t28) (
 L71_4 x0 x1 x2 x3 (vb false) (vi 0) x6 r0 r1 r2) :=
 (H_eq Tryz.func71 rfl).trans (by kernel_rfl)
theorem l71_4 (x0 x1 x2 x3 x4 x5 x6 : A) (r0 r1 r2 : List (List A)) : L71_4 x0 x1 x2 x3 x4 x5 x6 r0 r1 r2 =
 (pLenL x6).bind fun t31 =>
 (pBin .lss false x5 t31).bind fun t32 =>
 (pG t32 true (some x4)).bind fun t33 =>
 (pG t32 true (pUn .not t33)).bind fun t34 =>
 (pPick t32 t34 (vb false)).bind fun t35 =>
 (pBool t35).bind fun t36 =>
 brn t36 (
 (pIndexAddr 3 x6 x5).bind fun t37 =>
 (pAdd t37 1).bind fun t38 =>
 (pLoadN 2 t38).bind fun t39 =>
 ((G 34 [x0, x1, A.agg [A.sl 1 r1, A.sl 1 r2], t39]).bind (fin true)).bind fun t40 =>
 (pIndexAddr 3 x6 x5).bind fun t41 =>
 (pAdd t41 0).bind fun t42 =>
 (pLoadP t42).bind fun t43 =>
 (pBin .eql true t40 t43).bind fun t44 =>
 (pBin .add false x5 (vi 1)).bind fun t45 =>
 L71_4 x0 x1 x2 x3 t44 t45 x6 r0 r1 r2) (
 (pUn .not x4).bind fun t46 =>
 (pBool t46).bind fun t47 =>
 brn t47 (
 some ((vb false, []))) (
 (pBin .add false x3 (vi 1)).bind fun t48 =>
 L71_2 x0 x1 x2 t48 x6 r0)) :=
 (H_eq Tryz.func71 rfl).trans (by kernel_rfl)
theorem g72 (a0 : A) : G 72 [a0] =
 (pCells 2 a0).bind fun t0 =>
 ((G 111 [A.agg [cGet t0 0, cGet t0 1]]).bind (fin false)).bind fun t1 =>
 (pBin .leq false t1 (vi 30)).bind fun t2 =>
 (pWant t2 true).bind fun t3 =>
 (pG t2 true ((G 112 [A.agg [cGet t0 0, cGet t0 1]]).bind (fin false))).bind fun t4 =>
 (pG t2 true (pBin .leq false t4 (vi 8))).bind fun t5 =>
 (pPick t2 t5 (vb false)).bind fun t6 =>
 some ((t6, [])) :=
 (G_eq rfl Tryz.func72 rfl rfl).trans (by kernel_rfl)
theorem g73 (a0 : A) : G 73 [a0] =
 (pCells 2 a0).bind fun t0 =>
 ((G 113 [cGet t0 0]).bind (fin false)).bind fun t1 =>
 (pBool t1).bind fun t2 =>
 brn t2 (
 (pLenL (cGet t0 1)).bind fun t3 =>
 (pBin .eql false t3 (vi 0)).bind fun t4 =>
 some ((t4, []))) (
 ((G 86 [cGet t0 0]).bind (fin false)).bind fun t5 =>
 (pWant t5 true).bind fun t6 =>
 (pG t5 true (some (cGet t0 1))).bind fun t7 =>
 (pG t5 true (pLenL t7)).bind fun t8 =>
 (pG t5 true (pBin .leq false t8 (vi 4))).bind fun t9 =>
 (pPick t5 t9 (vb false)).bind fun t10 =>
 (pWant t10 true).bind fun t11 =>
 (pG t10 true (some (cGet t0 1))).bind fun t12 =>
 (pG t10 true ((G 99 [t12, A.fn 114 []]).bind (fin false))).bind fun t13 =>
 (pG t10 true (pUn .not t13)).bind fun t14 =>
 (pPick t10 t14 (vb false)).bind fun t15 =>
 some ((t15, []))) :=
 (G_eq rfl Tryz.func73 rfl rfl).trans (by kernel_rfl)
theorem g74 (a0 a1 : A) : G 74 [a0, a1] =
 (pCells 2 a0).bind fun t0 =>
 (pLenL (cGet t0 0)).bind fun t1 =>
 (pBin .sub false t1 (vi 1)).bind fun t2 =>
 L74_0 a1 t2 (cGet t0 0) (cGet t0 1) :=
 (G_eq rfl Tryz.func74 rfl rfl).trans (by kernel_rfl)
theorem l74_0 (x0 x1 x2 x3 : A) : L74_0 x0 x1 x2 x3 =
 (pBin .geq false x1 (vi 0)).bind fun t3 =>
 (pBool t3).bind fun t4 =>
 brn t4 (
 (pIndexAddr 1 x2 x1).bind fun t5 =>
 (pLoadP t5).bind fun t6 =>
 (pBin .eql false t6 x0).bind fun t7 =>
 (pBool t7).bind fun t8 =>
 brn t8 (
 (pIndexAddr 1 x3 x1).bind fun t9 =>
 (pLoadP t9).bind fun t10 =>
 some ((t10, []))) (
 (pBin .sub false x1 (vi 1)).bind fun t11 =>
 L74_0 x0 t11 x2 x3)) (
 some ((vi 0, []))) :=
 (H_eq Tryz.func74 rfl).trans (by kernel_rfl)
theorem g75 (a0 a1 a2 : A) : G 75 [a0, a1, a2] =
 L75_0 a0 a1 a2 (vi 17) (vi 0) :=
 (G_eq rfl Tryz.func75 rfl rfl).trans (by kernel_rfl)
theorem l75_0 (x0 x1 x2 x3 x4 : A) : L75_0 x0 x1 x2 x3 x4 =
 (pLenS x1).bind fun t0 =>
 (pBin .lss false x4 t0).bind fun t1 =>
 (pBool t1).bind fun t2 =>
 brn t2 (
 (pBin .mul false (vi 31) x3).bind fun t3 =>
 (pIndexS x1 x4).bind fun t4 =>
 (pConv .i64 t4).bind fun t5 =>
 (pBin .add false t3 t5).bind fun t6 =>
 (pBin .rem false t6 (vi 65521)).bind fun t7 =>
 (pBin .add false x4 (vi 1)).bind fun t8 =>
 L75_0 x0 x1 x2 t7 t8) (
 L75_1 x0 x2 x3 (vi 0)) :=
 (H_eq Tryz.func75 rfl).trans (by kernel_rfl)
theorem l75_1 (x0 x1 x2 x3 : A) : L75_1 x0 x1 x2 x3 =
 (pLenL x1).bind fun t9 =>
 (pBin .lss false x3 t9).bind fun t10 =>
 (pBool t10).bind fun t11 =>
 brn t11 (
 (pBin .mul false (vi 37) x2).bind fun t12 =>
 (pIndexAddr 1 x1 x3).bind fun t13 =>
 (pLoadP t13).bind fun t14 =>
 (pBin .add false t12 t14).bind fun t15 =>
 (pBin .add false t15 (vi 1)).bind fun t16 =>
 (pBin .rem false t16 (vi 65521)).bind fun t17 =>
 (pBin .add false x3 (vi 1)).bind fun t18 =>
 L75_1 x0 x1 t17 t18) (
 (pBin .rem false x2 (vi 53)).bind fun t19 =>
 ((G 30 [x0, t19]).bind (fin false)).bind fun t20 =>
 (pBin .mul false (vi 13) t20).bind fun t21 =>
 (pBin .add false x2 t21).bind fun t22 =>
 (pBin .rem false x2 (vi 89)).bind fun t23 =>
 ((G 30 [x0, t23]).bind (fin false)).bind fun t24 =>
 (pBin .add false t22 t24).bind fun t25 =>
 (pBin .quo false t25 (vi 3)).bind fun t26 =>
 some ((t26, []))) :=
 (H_eq Tryz.func75 rfl).trans (by kernel_rfl)
theorem g76 (a0 a1 a2 : A) : G 76 [a0, a1, a2] =
 (pBin .geq false a0 a1).bind fun t0 =>
 (pG t0 true (some a0)).bind fun t1 =>
 (pG t0 true (some a2)).bind fun t2 =>
 (pG t0 true (pBin .leq false t1 t2)).bind fun t3 =>
 (pPick t0 t3 (vb false)).bind fun t4 =>
 some ((t4, [])) :=
 (G_eq rfl Tryz.func76 rfl rfl).trans (by kernel_rfl)
theorem g77 (a0 : A) : G 77 [a0] =
 (pLenS a0).bind fun t0 =>
 ((G 76 [t0, vi 1, vi 6]).bind (fin false)).bind fun t1 =>
 (pUn .not t1).bind fun t2 =>
 (pG t2 false (some a0)).bind fun t3 =>
 (pG t2 false (pIndexS t3 (vi 0))).bind fun t4 =>
 (pG t2 false (pBin .lss false t4 (vy 97))).bind fun t5 =>
 (pPick t2 (vb true) t5).bind fun t6 =>
 (pG t6 false (some a0)).bind fun t7 =>
 (pG t6 false (pIndexS t7 (vi 0))).bind fun t8 =>
 (pG t6 false (pBin .gtr false t8 (vy 122))).bind fun t9 =>
 (pPick t6 (vb true) t9).bind fun t10 =>
 (pBool t10).bind fun t11 =>
 brn t11 (
 some ((vb false, []))) (
 (pBin .eql false a0 (sv [116, 114, 117, 101])).bind fun t12 =>
 (pBool t12).bind fun t13 =>
 brn t13 (
 (pBool t12).bind fun t14 =>
 brn t14 (
 some ((vb false, []))) (
 L77_0 a0 (vi 1))) (
 (pBin .eql false a0 (sv [102, 97, 108, 115, 101])).bind fun t15 =>
 (pBool t15).bind fun t16 =>
 brn t16 (
 (pBool t15).bind fun t17 =>
 brn t17 (
 some ((vb false, []))) (
 L77_0 a0 (vi 1))) (
 (pBin .eql false a0 (sv [116, 114, 117, 116, 104])).bind fun t18 =>
 (pBool t18).bind fun t19 =>
 brn t19 (
 (pBool t18).bind fun t20 =>
 brn t20 (
 some ((vb false, []))) (
 L77_0 a0 (vi 1))) (
 (pBin .eql false a0 (sv [98, 111, 116, 104])).bind fun t21 =>
 (pBool t21).bind fun t22 =>
 brn t22 (
 (pBool t21).bind fun t23 =>
 brn t23 (
 some ((vb false, []))) (
 L77_0 a0 (vi 1))) (
 (pBin .eql false a0 (sv [101, 105, 116, 104, 101, 114])).bind fun t24 =>
 (pBool t24).bind fun t25 =>
 brn t25 (
 (pBool t24).bind fun t26 =>
 brn t26 (
 some ((vb false, []))) (
 L77_0 a0 (vi 1))) (
 (pBin .eql false a0 (sv [105, 102])).bind fun t27 =>
 (pBool t27).bind fun t28 =>
 brn t28 (
 (pBool t27).bind fun t29 =>
 brn t29 (
 some ((vb false, []))) (
 L77_0 a0 (vi 1))) (
 (pBin .eql false a0 (sv [97, 108, 108])).bind fun t30 =>
 (pBool t30).bind fun t31 =>
 brn t31 (
 (pBool t30).bind fun t32 =>
 brn t32 (
 some ((vb false, []))) (
 L77_0 a0 (vi 1))) (
 (pBin .eql false a0 (sv [115, 111, 109, 101])).bind fun t33 =>
 (pBool t33).bind fun t34 =>
 brn t34 (
 some ((vb false, []))) (
 L77_0 a0 (vi 1)))))))))) :=
 (G_eq rfl Tryz.func77 rfl rfl).trans (by kernel_rfl)
theorem l77_0 (x0 x1 : A) : L77_0 x0 x1 =
 (pLenS x0).bind fun t35 =>
 (pBin .lss false x1 t35).bind fun t36 =>
 (pBool t36).bind fun t37 =>
 brn t37 (
 (pIndexS x0 x1).bind fun t38 =>
 ((G 115 [t38]).bind (fin false)).bind fun t39 =>
 (pUn .not t39).bind fun t40 =>
 (pG t40 true (some x0)).bind fun t41 =>
 (pG t40 true (some x1)).bind fun t42 =>
 (pG t40 true (pIndexS t41 t42)).bind fun t43 =>
 (pG t40 true (pBin .neq false t43 (vy 95))).bind fun t44 =>
 (pPick t40 t44 (vb false)).bind fun t45 =>
 (pBool t45).bind fun t46 =>
 brn t46 (
 some ((vb false, []))) (
 (pBin .add false x1 (vi 1)).bind fun t47 =>
 L77_0 x0 t47)) (
 some ((vb true, []))) :=
 (H_eq Tryz.func77 rfl).trans (by kernel_rfl)
theorem g78 (a0 a1 : A) : G 78 [a0, a1] =
 L78_0 a0 a1 (vi 0) :=
 (G_eq rfl Tryz.func78 rfl rfl).trans (by kernel_rfl)
theorem l78_0 (x0 x1 x2 : A) : L78_0 x0 x1 x2 =
 (pLenL x0).bind fun t0 =>
 (pBin .lss false x2 t0).bind fun t1 =>
 (pBool t1).bind fun t2 =>
 brn t2 (
 (pIndexAddr 1 x0 x2).bind fun t3 =>
 (pLoadP t3).bind fun t4 =>
 (pBin .eql false t4 x1).bind fun t5 =>
 (pBool t5).bind fun t6 =>
 brn t6 (
 some ((vb true, []))) (
 (pBin .add false x2 (vi 1)).bind fun t7 =>
 L78_0 x0 x1 t7)) (
 some ((vb false, []))) :=
 (H_eq Tryz.func78 rfl).trans (by kernel_rfl)
theorem g79 (a0 a1 : A) : G 79 [a0, a1] =
 (pCells 3 a0).bind fun t0 =>
 (pCells 2 a1).bind fun t1 =>
 ((G 82 [cGet t1 0]).bind (fin false)).bind fun t2 =>
 (pUn .not t2).bind fun t3 =>
 (pWant t3 true).bind fun t4 =>
 (pWant t3 true).bind fun t5 =>
 (pG t3 true (some (cGet t1 0))).bind fun t6 =>
 (pG t3 true ((G 116 [A.agg [cGet t0 0, cGet t0 1, cGet t0 2], t6]).bind (fin false))).bind fun t7 =>
 (pG t3 true (pBin .lss false t7 (vi 0))).bind fun t8 =>
 (pPick t3 t8 (vb false)).bind fun t9 =>
 (pBool t9).bind fun t10 =>
 brn t10 (
 some ((vb false, []))) (
 L79_0 (vi 0) (cGet t0 0) (cGet t0 1) (cGet t0 2) (cGet t1 0) (cGet t1 1)) :=
 (G_eq rfl Tryz.func79 rfl rfl).trans (by kernel_rfl)
theorem l79_0 (x0 x1 x2 x3 x4 x5 : A) : L79_0 x0 x1 x2 x3 x4 x5 =
 (pLenL x5).bind fun t11 =>
 (pBin .lss false x0 t11).bind fun t12 =>
 (pBool t12).bind fun t13 =>
 brn t13 (
 (pIndexAddr 2 x5 x0).bind fun t14 =>
 (pLoadN 2 t14).bind fun t15 =>
 ((G 79 [A.agg [x1, x2, x3], t15]).bind (fin false)).bind fun t16 =>
 (pUn .not t16).bind fun t17 =>
 (pBool t17).bind fun t18 =>
 brn t18 (
 some ((vb false, []))) (
 (pBin .add false x0 (vi 1)).bind fun t19 =>
 L79_0 t19 x1 x2 x3 x4 x5)) (
 some ((vb true, []))) :=
 (H_eq Tryz.func79 rfl).trans (by kernel_rfl)
theorem g80 (a0 a1 : A) : G 80 [a0, a1] =
 (pCells 2 a0).bind fun t0 =>
 (pCells 2 a1).bind fun t1 =>
 ((G 117 [A.agg [cGet t1 0, cGet t1 1]]).bind (fin false)).bind fun t2 =>
 L80_0 t2 (vi 0) (cGet t0 0) (cGet t0 1) (cGet t1 0) (cGet t1 1) :=
 (G_eq rfl Tryz.func80 rfl rfl).trans (by kernel_rfl)
theorem l80_0 (x0 x1 x2 x3 x4 x5 : A) : L80_0 x0 x1 x2 x3 x4 x5 =
 (pLenL x0).bind fun t3 =>
 (pBin .lss false x1 t3).bind fun t4 =>
 (pBool t4).bind fun t5 =>
 brn t5 (
 (pIndexAddr 1 x0 x1).bind fun t6 =>
 (pLoadP t6).bind fun t7 =>
 ((G 118 [A.agg [x2, x3], t7]).bind (fin false)).bind fun t8 =>
 (pIndexAddr 1 x0 x1).bind fun t9 =>
 (pLoadP t9).bind fun t10 =>
 ((G 118 [A.agg [x4, x5], t10]).bind (fin false)).bind fun t11 =>
 (pBin .lss false t8 t11).bind fun t12 =>
 (pBool t12).bind fun t13 =>
 brn t13 (
 some ((vb false, []))) (
 (pBin .add false x1 (vi 1)).bind fun t14 =>
 L80_0 x0 t14 x2 x3 x4 x5)) (
 some ((vb true, []))) :=
 (H_eq Tryz.func80 rfl).trans (by kernel_rfl)
theorem g81 (a0 a1 : A) : G 81 [a0, a1] =
 (pCells 3 a0).bind fun t0 =>
 (pCells 2 a1).bind fun t1 =>
 ((G 82 [cGet t1 0]).bind (fin false)).bind fun t2 =>
 (pUn .not t2).bind fun t3 =>
 (pBool t3).bind fun t4 =>
 brn t4 (
 ((G 116 [A.agg [cGet t0 0, cGet t0 1, cGet t0 2], cGet t1 0]).bind (fin false)).bind fun t5 =>
 (pIndexAddr 1 (cGet t0 1) t5).bind fun t6 =>
 (pLoadP t6).bind fun t7 =>
 L81_0 t7 (vi 0) (cGet t0 0) (cGet t0 1) (cGet t0 2) (cGet t1 0) (cGet t1 1)) (
 L81_0 (cGet t0 2) (vi 0) (cGet t0 0) (cGet t0 1) (cGet t0 2) (cGet t1 0) (cGet t1 1)) :=
 (G_eq rfl Tryz.func81 rfl rfl).trans (by kernel_rfl)
theorem l81_0 (x0 x1 x2 x3 x4 x5 x6 : A) : L81_0 x0 x1 x2 x3 x4 x5 x6 =
 (pLenL x6).bind fun t8 =>
 (pBin .lss false x1 t8).bind fun t9 =>
 (pBool t9).bind fun t10 =>
 brn t10 (
 (pIndexAddr 2 x6 x1).bind fun t11 =>
 (pLoadN 2 t11).bind fun t12 =>
 ((G 81 [A.agg [x2, x3, x4], t12]).bind (fin false)).bind fun t13 =>
 (pBin .add false x0 t13).bind fun t14 =>
 (pBin .add false x1 (vi 1)).bind fun t15 =>
 L81_0 t14 t15 x2 x3 x4 x5 x6) (
 some ((x0, []))) :=
 (H_eq Tryz.func81 rfl).trans (by kernel_rfl)
theorem g82 (a0 : A) : G 82 [a0] =
 (pLenS a0).bind fun t0 =>
 ((G 76 [t0, vi 1, vi 4]).bind (fin false)).bind fun t1 =>
 (pUn .not t1).bind fun t2 =>
 (pG t2 false (some a0)).bind fun t3 =>
 (pG t2 false (pIndexS t3 (vi 0))).bind fun t4 =>
 (pG t2 false (pBin .lss false t4 (vy 65))).bind fun t5 =>
 (pPick t2 (vb true) t5).bind fun t6 =>
 (pG t6 false (some a0)).bind fun t7 =>
 (pG t6 false (pIndexS t7 (vi 0))).bind fun t8 =>
 (pG t6 false (pBin .gtr false t8 (vy 90))).bind fun t9 =>
 (pPick t6 (vb true) t9).bind fun t10 =>
 (pBool t10).bind fun t11 =>
 brn t11 (
 some ((vb false, []))) (
 L82_0 a0 (vi 1)) :=
 (G_eq rfl Tryz.func82 rfl rfl).trans (by kernel_rfl)
theorem l82_0 (x0 x1 : A) : L82_0 x0 x1 =
 (pLenS x0).bind fun t12 =>
 (pBin .lss false x1 t12).bind fun t13 =>
 (pBool t13).bind fun t14 =>
 brn t14 (
 (pIndexS x0 x1).bind fun t15 =>
 ((G 115 [t15]).bind (fin false)).bind fun t16 =>
 (pUn .not t16).bind fun t17 =>
 (pBool t17).bind fun t18 =>
 brn t18 (
 some ((vb false, []))) (
 (pBin .add false x1 (vi 1)).bind fun t19 =>
 L82_0 x0 t19)) (
 some ((vb true, []))) :=
 (H_eq Tryz.func82 rfl).trans (by kernel_rfl)
theorem g83 (a0 a1 a2 : A) : G 83 [a0, a1, a2] =
 (pCells 3 a0).bind fun t0 =>
 (pCells 2 a1).bind fun t1 =>
 (pCells 2 a2).bind fun t2 =>
 ((G 116 [A.agg [cGet t0 0, cGet t0 1, cGet t0 2], cGet t1 0]).bind (fin false)).bind fun t3 =>
 ((G 116 [A.agg [cGet t0 0, cGet t0 1, cGet t0 2], cGet t2 0]).bind (fin false)).bind fun t4 =>
 (pBin .eql false t3 t4).bind fun t5 =>
 (pBool t5).bind fun t6 =>
 brn t6 (
 (pLenL (cGet t1 1)).bind fun t7 =>
 (pLenL (cGet t2 1)).bind fun t8 =>
 (pBin .lss false t7 t8).bind fun t9 =>
 (pBool t9).bind fun t10 =>
 brn t10 (
 some ((vi (-1), []))) (
 (pBin .gtr false t7 t8).bind fun t11 =>
 (pBool t11).bind fun t12 =>
 brn t12 (
 some ((vi 1, []))) (
 some ((vi 0, []))))) (
 (pBin .lss false t3 t4).bind fun t13 =>
 (pBool t13).bind fun t14 =>
 brn t14 (
 some ((vi (-1), []))) (
 (pBin .gtr false t3 t4).bind fun t15 =>
 (pBool t15).bind fun t16 =>
 brn t16 (
 some ((vi 1, []))) (
 some ((vi 0, []))))) :=
 (G_eq rfl Tryz.func83 rfl rfl).trans (by kernel_rfl)
theorem g84 (a0 a1 : A) : G 84 [a0, a1] =
 (pCells 2 a0).bind fun t0 =>
 (pCells 2 a1).bind fun t1 =>
 L84_0 (vi 0) (cGet t0 0) (cGet t0 1) (cGet t1 0) (cGet t1 1) :=
 (G_eq rfl Tryz.func84 rfl rfl).trans (by kernel_rfl)
theorem l84_0 (x0 x1 x2 x3 x4 : A) : L84_0 x0 x1 x2 x3 x4 =
 (pLenL x2).bind fun t2 =>
 (pBin .lss false x0 t2).bind fun t3 =>
 (pBool t3).bind fun t4 =>
 brn t4 (
 (pIndexAddr 2 x2 x0).bind fun t5 =>
 (pLoadN 2 t5).bind fun t6 =>
 (pIndexAddr 2 x4 x0).bind fun t7 =>
 (pLoadN 2 t7).bind fun t8 =>
 ((G 56 [t6, t8]).bind (fin false)).bind fun t9 =>
 (pUn .not t9).bind fun t10 =>
 (pBool t10).bind fun t11 =>
 brn t11 (
 some ((x0, []))) (
 (pBin .add false x0 (vi 1)).bind fun t12 =>
 L84_0 t12 x1 x2 x3 x4)) (
 some ((vi (-1), []))) :=
 (H_eq Tryz.func84 rfl).trans (by kernel_rfl)
theorem g85 (a0 a1 a2 : A) : G 85 [a0, a1, a2] =
 (pBin .geq false a0 a1).bind fun t0 =>
 (pG t0 true (some a0)).bind fun t1 =>
 (pG t0 true (some a2)).bind fun t2 =>
 (pG t0 true (pBin .leq false t1 t2)).bind fun t3 =>
 (pPick t0 t3 (vb false)).bind fun t4 =>
 some ((t4, [])) :=
 (G_eq rfl Tryz.func85 rfl rfl).trans (by kernel_rfl)
theorem g86 (a0 : A) : G 86 [a0] =
 (pLenS a0).bind fun t0 =>
 L86_0 a0 t0 (vi 0) :=
 (G_eq rfl Tryz.func86 rfl rfl).trans (by kernel_rfl)
theorem l86_0 (x0 x1 x2 : A) : L86_0 x0 x1 x2 =
 (pBin .lss false x2 x1).bind fun t1 =>
 (pBool t1).bind fun t2 =>
 brn t2 (
 (pBin .eql false x2 (vi 0)).bind fun t3 =>
 (pG t3 true (some x0)).bind fun t4 =>
 (pG t3 true (some x2)).bind fun t5 =>
 (pG t3 true (pIndexS t4 t5)).bind fun t6 =>
 (pG t3 true ((G 119 [t6]).bind (fin false))).bind fun t7 =>
 (pG t3 true (pUn .not t7)).bind fun t8 =>
 (pPick t3 t8 (vb false)).bind fun t9 =>
 (pG t9 false (some x0)).bind fun t10 =>
 (pG t9 false (some x2)).bind fun t11 =>
 (pG t9 false (pIndexS t10 t11)).bind fun t12 =>
 (pG t9 false ((G 119 [t12]).bind (fin false))).bind fun t13 =>
 (pG t9 false (pUn .not t13)).bind fun t14 =>
 (pG t9 false (some t14)).bind fun t15 =>
 (pG t15 true (some x0)).bind fun t16 =>
 (pG t15 true (some x2)).bind fun t17 =>
 (pG t15 true (pIndexS t16 t17)).bind fun t18 =>
 (pG t15 true ((G 120 [t18]).bind (fin false))).bind fun t19 =>
 (pG t15 true (pUn .not t19)).bind fun t20 =>
 (pG t9 false (pPick t15 t20 (vb false))).bind fun t21 =>
 (pG t9 false (some t21)).bind fun t22 =>
 (pG t22 true (some x0)).bind fun t23 =>
 (pG t22 true (some x2)).bind fun t24 =>
 (pG t22 true (pIndexS t23 t24)).bind fun t25 =>
 (pG t22 true (pBin .neq false t25 (vy 95))).bind fun t26 =>
 (pG t9 false (pPick t22 t26 (vb false))).bind fun t27 =>
 (pPick t9 (vb true) t27).bind fun t28 =>
 (pBool t28).bind fun t29 =>
 brn t29 (
 some ((vb false, []))) (
 (pBin .add false x2 (vi 1)).bind fun t30 =>
 L86_0 x0 x1 t30)) (
 (pLenS x0).bind fun t31 =>
 ((G 85 [t31, vi 1, vi 6]).bind (fin false)).bind fun t32 =>
 (pG t32 true ((G 121 []).bind (fin false))).bind fun t33 =>
 (pG t32 true (some x0)).bind fun t34 =>
 (pG t32 true ((G 87 [t33, t34]).bind (fin false))).bind fun t35 =>
 (pG t32 true (pUn .not t35)).bind fun t36 =>
 (pPick t32 t36 (vb false)).bind fun t37 =>
 some ((t37, []))) :=
 (H_eq Tryz.func86 rfl).trans (by kernel_rfl)
theorem g87 (a0 a1 : A) : G 87 [a0, a1] =
 ((G 122 [a0, a1]).bind (fin false)).bind fun t0 =>
 (pBin .geq false t0 (vi 0)).bind fun t1 =>
 some ((t1, [])) :=
 (G_eq rfl Tryz.func87 rfl rfl).trans (by kernel_rfl)
theorem c89_0 (x0 : A) : C89_0 x0 =
 (pLenL x0).bind fun t0 =>
 (pBin .eql false t0 (vi 0)).bind fun t1 =>
 (pBool t1).bind fun t2 =>
 brn t2 (
 some ((A.top, [A.sl 2 []]))) (
 (pLenL x0).bind fun t3 =>
 (pMake 40 t3 t3).bind fun t4 =>
 (pLenL x0).bind fun t5 =>
 L89c0_0 x0 t5 (vi 0) (rRep t4 [sv [], A.sl 2 []])) :=
 (V_eq rfl Tryz.func89 rfl rfl).trans (by kernel_rfl)
theorem l89c0_0 (x0 x1 x2 : A) (r0 : List (List A)) : L89c0_0 x0 x1 x2 r0 =
 (pBin .lss false x2 x1).bind fun t6 =>
 (pBool t6).bind fun t7 =>
 brn t7 (
 (pIndexAddr 2 x0 x2).bind fun t8 =>
 (pLoadN 2 t8).bind fun t9 =>
 (pCells 2 t9).bind fun t10 =>
 ((G 46 [A.agg [cGet t10 0, cGet t10 1]]).bind (fin false)).bind fun t11 =>
 (pIx (rLenN r0) x2).bind fun t12 =>
 (pCells 2 t11).bind fun t13 =>
 (rGet r0 t12).bind fun t14 =>
 (pBin .add false x2 (vi 1)).bind fun t15 =>
 L89c0_0 x0 x1 t15 (rSet r0 t12 (cOver t14 0 [cGet t13 0, cGet t13 1]))) (
 some ((A.top, [A.sl 2 r0]))) :=
 (H_eq Tryz.func89 rfl).trans (by kernel_rfl)
theorem g90 (a0 a1 a2 : A) : G 90 [a0, a1, a2] =
 (pBool a0).bind fun t0 =>
 brn t0 (
 some ((vi 1, []))) (
 (DX.run K (MM K) (.callc a1 [] false)).bind fun t1 =>
 (pBool t1).bind fun t2 =>
 brn t2 (
 some ((vi 2, []))) (
 (DX.run K (MM K) (.callc a2 [] false)).bind fun t3 =>
 (pBool t3).bind fun t4 =>
 brn t4 (
 some ((vi 3, []))) (
 some ((vi 0, []))))) :=
 (G_eq rfl Tryz.func90 rfl rfl).trans (by kernel_rfl)
theorem g91 (a0 a1 a2 : A) : G 91 [a0, a1, a2] =
 (pLoadN 3 a0).bind fun t0 =>
 (pLoadN 2 a1).bind fun t1 =>
 (pLoadN 2 a2).bind fun t2 =>
 ((G 92 [t0, t1, t2]).bind (fin false)).bind fun t3 =>
 some ((t3, [])) :=
 (G_eq rfl Tryz.func91 rfl rfl).trans (by kernel_rfl)
theorem g92 (a0 a1 a2 : A) : G 92 [a0, a1, a2] =
 (pCells 3 a0).bind fun t0 =>
 (pCells 2 a1).bind fun t1 =>
 (pCells 2 a2).bind fun t2 =>
 ((G 125 [A.agg [cGet t2 0, cGet t2 1]]).bind (fin false)).bind fun t3 =>
 (pLenL t3).bind fun t4 =>
 L92_0 t3 t4 (vi 0) (cGet t0 0) (cGet t0 1) (cGet t0 2) (cGet t1 0) (cGet t1 1) (cGet t2 0) (cGet t2 1) :=
 (G_eq rfl Tryz.func92 rfl rfl).trans (by kernel_rfl)
theorem l92_0 (x0 x1 x2 x3 x4 x5 x6 x7 x8 x9 : A) : L92_0 x0 x1 x2 x3 x4 x5 x6 x7 x8 x9 =
 (pBin .lss false x2 x1).bind fun t5 =>
 (pBool t5).bind fun t6 =>
 brn t6 (
 (pIndexAddr 1 x0 x2).bind fun t7 =>
 (pLoadP t7).bind fun t8 =>
 ((G 126 [A.agg [x6, x7], t8]).bind (fin false)).bind fun t9 =>
 ((G 126 [A.agg [x8, x9], t8]).bind (fin false)).bind fun t10 =>
 (pBin .lss false t9 t10).bind fun t11 =>
 (pBool t11).bind fun t12 =>
 brn t12 (
 some ((vb false, []))) (
 (pBin .add false x2 (vi 1)).bind fun t13 =>
 L92_0 x0 x1 t13 x3 x4 x5 x6 x7 x8 x9)) (
 ((G 127 [A.agg [x3, x4, x5], A.agg [x6, x7]]).bind (fin false)).bind fun t14 =>
 ((G 127 [A.agg [x3, x4, x5], A.agg [x8, x9]]).bind (fin false)).bind fun t15 =>
 (pBin .neq false t14 t15).bind fun t16 =>
 (pWant t16 false).bind fun t17 =>
 (pG t16 false ((G 123 [A.agg [x6, x7]]).bind (fin false))).bind fun t18 =>
 (pPick t16 (vb true) t18).bind fun t19 =>
 (pWant t19 false).bind fun t20 =>
 (pG t19 false ((G 123 [A.agg [x8, x9]]).bind (fin false))).bind fun t21 =>
 (pPick t19 (vb true) t21).bind fun t22 =>
 (pBool t22).bind fun t23 =>
 brn t23 (
 (pBin .gtr false t14 t15).bind fun t24 =>
 some ((t24, []))) (
 ((G 128 [A.agg [x3, x4, x5], A.agg [x8, x9], A.agg [x6, x7]]).bind (fin false)).bind fun t25 =>
 (pBool t25).bind fun t26 =>
 brn t26 (
 some ((vb true, []))) (
 ((G 129 [A.agg [x6, x7], A.agg [x8, x9]]).bind (fin false)).bind fun t27 =>
 (pTup t27 0).bind fun t28 =>
 (pTup t27 1).bind fun t29 =>
 (pTup t27 2).bind fun t30 =>
 (pCells 2 t28).bind fun t31 =>
 (pCells 2 t29).bind fun t32 =>
 (pWant t30 true).bind fun t33 =>
 (pWant t30 true).bind fun t34 =>
 (pWant t30 true).bind fun t35 =>
 (pG t30 true ((G 92 [A.agg [x3, x4, x5], A.agg [cGet t31 0, cGet t31 1], A.agg [cGet t32 0, cGet t32 1]]).bind (fin false))).bind fun t36 =>
 (pPick t30 t36 (vb false)).bind fun t37 =>
 some ((t37, []))))) :=
 (H_eq Tryz.func92 rfl).trans (by kernel_rfl)
theorem g93 (a0 a1 a2 : A) : G 93 [a0, a1, a2] =
 (pLoadN 3 a0).bind fun t0 =>
 (pLoadN 2 a1).bind fun t1 =>
 (pLoadN 2 a2).bind fun t2 =>
 ((G 92 [t0, t1, t2]).bind (fin false)).bind fun t3 =>
 some ((t3, [])) :=
 (G_eq rfl Tryz.func93 rfl rfl).trans (by kernel_rfl)
theorem g94 (a0 : A) : G 94 [a0] =
 (pCells 2 a0).bind fun t0 =>
 ((G 130 [A.agg [cGet t0 0, cGet t0 1], vi 30]).bind (fin false)).bind fun t1 =>
 (pBin .leq false t1 (vi 30)).bind fun t2 =>
 (pWant t2 true).bind fun t3 =>
 (pG t2 true ((G 131 [A.agg [cGet t0 0, cGet t0 1]]).bind (fin false))).bind fun t4 =>
 (pG t2 true (pBin .leq false t4 (vi 8))).bind fun t5 =>
 (pPick t2 t5 (vb false)).bind fun t6 =>
 some ((t6, [])) :=
 (G_eq rfl Tryz.func94 rfl rfl).trans (by kernel_rfl)
theorem g95 (a0 : A) : G 95 [a0] =
 (pCells 2 a0).bind fun t0 =>
 ((G 82 [cGet t0 0]).bind (fin false)).bind fun t1 =>
 (pBool t1).bind fun t2 =>
 brn t2 (
 (pLenL (cGet t0 1)).bind fun t3 =>
 (pBin .eql false t3 (vi 0)).bind fun t4 =>
 some ((t4, []))) (
 ((G 77 [cGet t0 0]).bind (fin false)).bind fun t5 =>
 (pUn .not t5).bind fun t6 =>
 (pWant t6 false).bind fun t7 =>
 (pG t6 false (some (cGet t0 1))).bind fun t8 =>
 (pG t6 false (pLenL t8)).bind fun t9 =>
 (pG t6 false (pBin .gtr false t9 (vi 4))).bind fun t10 =>
 (pPick t6 (vb true) t10).bind fun t11 =>
 (pBool t11).bind fun t12 =>
 brn t12 (
 some ((vb false, []))) (
 L95_0 (vi 0) (cGet t0 0) (cGet t0 1))) :=
 (G_eq rfl Tryz.func95 rfl rfl).trans (by kernel_rfl)
theorem l95_0 (x0 x1 x2 : A) : L95_0 x0 x1 x2 =
 (pLenL x2).bind fun t13 =>
 (pBin .lss false x0 t13).bind fun t14 =>
 (pBool t14).bind fun t15 =>
 brn t15 (
 (pIndexAddr 2 x2 x0).bind fun t16 =>
 (pLoadN 2 t16).bind fun t17 =>
 ((G 95 [t17]).bind (fin false)).bind fun t18 =>
 (pUn .not t18).bind fun t19 =>
 (pBool t19).bind fun t20 =>
 brn t20 (
 some ((vb false, []))) (
 (pBin .add false x0 (vi 1)).bind fun t21 =>
 L95_0 t21 x1 x2)) (
 some ((vb true, []))) :=
 (H_eq Tryz.func95 rfl).trans (by kernel_rfl)
theorem g96 (a0 : A) : G 96 [a0] =
 (pCells 2 a0).bind fun t0 =>
 ((G 53 [A.agg [cGet t0 0, cGet t0 1]]).bind (fin false)).bind fun t1 =>
 (pWant t1 true).bind fun t2 =>
 (pG t1 true (some (cGet t0 0))).bind fun t3 =>
 (pG t1 true (pBin .eql false t3 (sv [61]))).bind fun t4 =>
 (pPick t1 t4 (vb false)).bind fun t5 =>
 (pWant t5 true).bind fun t6 =>
 (pG t5 true (some (cGet t0 1))).bind fun t7 =>
 (pG t5 true (pIndexAddr 2 t7 (vi 0))).bind fun t8 =>
 (pG t5 true (pLoadN 2 t8)).bind fun t9 =>
 (pWant t5 true).bind fun t10 =>
 (pG t5 true (some (cGet t0 1))).bind fun t11 =>
 (pG t5 true (pIndexAddr 2 t11 (vi 1))).bind fun t12 =>
 (pG t5 true (pLoadN 2 t12)).bind fun t13 =>
 (pG t5 true ((G 132 [t9, t13]).bind (fin false))).bind fun t14 =>
 (pG t5 true (pBin .eql false t14 (vi 2))).bind fun t15 =>
 (pPick t5 t15 (vb false)).bind fun t16 =>
 some ((t16, [])) :=
 (G_eq rfl Tryz.func96 rfl rfl).trans (by kernel_rfl)
theorem g97 (a0 a1 a2 : A) : G 97 [a0, a1, a2] =
 (pCells 2 a0).bind fun t0 =>
 (G 133 [A.agg [cGet t0 0, cGet t0 1], A.sl 1 []]).bind fun t1 =>
 (fin false t1).bind fun t2 =>
 L97_0 a1 a2 t2 (vi 0) (cGet t0 0) (cGet t0 1) (sv []) [] :=
 (G_eq rfl Tryz.func97 rfl rfl).trans (by kernel_rfl)
theorem l97_0 (x0 x1 x2 x3 x4 x5 x6 : A) (r0 : List (List A)) : L97_0 x0 x1 x2 x3 x4 x5 x6 r0 =
 (pLenL x2).bind fun t3 =>
 (pBin .lss false x3 t3).bind fun t4 =>
 (pBool t4).bind fun t5 =>
 brn t5 (
 (pIndexAddr 1 x2 x3).bind fun t6 =>
 (pLoadP t6).bind fun t7 =>
 (pLenL t7).bind fun t8 =>
 (pBin .eql false t8 (vi 0)).bind fun t9 =>
 (pG t9 true (some x1)).bind fun t10 =>
 (pG t9 true (pUn .not t10)).bind fun t11 =>
 (pPick t9 t11 (vb false)).bind fun t12 =>
 (pBool t12).bind fun t13 =>
 brn t13 (
 (pBin .add false x3 (vi 1)).bind fun t14 =>
 L97_0 x0 x1 x2 t14 x4 x5 x6 r0) (
 (pIndexAddr 1 x2 x3).bind fun t15 =>
 (pLoadP t15).bind fun t16 =>
 ((G 134 [A.agg [x4, x5], t16]).bind (fin false)).bind fun t17 =>
 (pTup t17 0).bind fun t18 =>
 (pTup t17 1).bind fun t19 =>
 (pCells 2 t18).bind fun t20 =>
 L97_1 x0 x1 x2 x3 (vi 0) x4 x5 x6 (cGet t20 0) (cGet t20 1) r0)) (
 brn (okA x4) (
 brn (okA x5) (
 some ((A.tup [A.agg [x4, x5], vb false], []))) (
 none)) (
 none)) :=
 (H_eq Tryz.func97 rfl).trans (by kernel_rfl)
theorem l97_1 (x0 x1 x2 x3 x4 x5 x6 x7 x8 x9 : A) (r0 : List (List A)) : L97_1 x0 x1 x2 x3 x4 x5 x6 x7 x8 x9 r0 =
 (pLenL x0).bind fun t21 =>
 (pBin .lss false x4 t21).bind fun t22 =>
 (pBool t22).bind fun t23 =>
 brn t23 (
 (pIndexAddr 2 x0 x4).bind fun t24 =>
 (pAdd t24 1).bind fun t25 =>
 (pLoadP t25).bind fun t26 =>
 (pIndexAddr 2 t26 (vi 0)).bind fun t27 =>
 (pLoadN 2 t27).bind fun t28 =>
 (C135_0 t28 x8 x9 []).bind fun t29 =>
 (hD t29 0).bind fun t30 =>
 (hR 259 t29 1).bind fun t31 =>
 (pBool t30).bind fun t32 =>
 brn t32 (
 (pBool t30).bind fun t33 =>
 brn t33 (
 (pIndexAddr 1 x2 x3).bind fun t34 =>
 (pLoadP t34).bind fun t35 =>
 (G 137 [A.sl 3 t31]).bind fun t36 =>
 (fin false t36).bind fun t37 =>
 (pIndexAddr 2 x0 x4).bind fun t38 =>
 (pAdd t38 1).bind fun t39 =>
 (pLoadP t39).bind fun t40 =>
 (pIndexAddr 2 t40 (vi 1)).bind fun t41 =>
 (pLoadN 2 t41).bind fun t42 =>
 (G 68 [t37, t42]).bind fun t43 =>
 (fin false t43).bind fun t44 =>
 ((G 136 [A.agg [x5, x6], t35, t44]).bind (fin false)).bind fun t45 =>
 (pCells 2 t45).bind fun t46 =>
 some ((A.tup [A.agg [cGet t46 0, cGet t46 1], vb true], []))) (
 (pBin .add false x4 (vi 1)).bind fun t47 =>
 L97_1 x0 x1 x2 x3 t47 x5 x6 x7 x8 x9 r0)) (
 (pBool t30).bind fun t48 =>
 brn t48 (
 (pIndexAddr 1 x2 x3).bind fun t49 =>
 (pLoadP t49).bind fun t50 =>
 none) (
 (pBin .add false x4 (vi 1)).bind fun t51 =>
 L97_1 x0 x1 x2 x3 t51 x5 x6 x7 x8 x9 r0))) (
 (pBin .add false x3 (vi 1)).bind fun t52 =>
 L97_0 x0 x1 x2 t52 x5 x6 x7 r0) :=
 (H_eq Tryz.func97 rfl).trans (by kernel_rfl)
theorem g98 (a0 a1 a2 : A) : G 98 [a0, a1, a2] =
 (pLenL a0).bind fun t0 =>
 (pLenL a1).bind fun t1 =>
 (pBin .neq false t0 t1).bind fun t2 =>
 (pBool t2).bind fun t3 =>
 brn t3 (
 some ((vb false, []))) (
 (pLenL a0).bind fun t4 =>
 L98_0 a1 a2 a0 t4 (vi 0)) :=
 (G_eq rfl Tryz.func98 rfl rfl).trans (by kernel_rfl)
theorem l98_0 (x0 x1 x2 x3 x4 : A) : L98_0 x0 x1 x2 x3 x4 =
 (pBin .lss false x4 x3).bind fun t5 =>
 (pBool t5).bind fun t6 =>
 brn t6 (
 (pIndexAddr 2 x2 x4).bind fun t7 =>
 (pLoadN 2 t7).bind fun t8 =>
 (pCells 2 t8).bind fun t9 =>
 (pIndexAddr 2 x0 x4).bind fun t10 =>
 (pLoadN 2 t10).bind fun t11 =>
 (pCells 2 t11).bind fun t12 =>
 (DX.run K (MM K) (.callc x1 [A.agg [cGet t9 0, cGet t9 1], A.agg [cGet t12 0, cGet t12 1]] false)).bind fun t13 =>
 (pUn .not t13).bind fun t14 =>
 (pBool t14).bind fun t15 =>
 brn t15 (
 some ((vb false, []))) (
 (pBin .add false x4 (vi 1)).bind fun t16 =>
 L98_0 x0 x1 x2 x3 t16)) (
 some ((vb true, []))) :=
 (H_eq Tryz.func98 rfl).trans (by kernel_rfl)
theorem g99 (a0 a1 : A) : G 99 [a0, a1] =
 ((G 138 [a0, a1]).bind (fin false)).bind fun t0 =>
 (pBin .geq false t0 (vi 0)).bind fun t1 =>
 some ((t1, [])) :=
 (G_eq rfl Tryz.func99 rfl rfl).trans (by kernel_rfl)
theorem g100 (a0 : A) : G 100 [a0] =
 (pCells 2 a0).bind fun t0 =>
 ((G 101 [A.agg [cGet t0 0, cGet t0 1]]).bind (fin false)).bind fun t1 =>
 (pUn .not t1).bind fun t2 =>
 some ((t2, [])) :=
 (G_eq rfl Tryz.func100 rfl rfl).trans (by kernel_rfl)
theorem g101 (a0 : A) : G 101 [a0] =
 (pCells 2 a0).bind fun t0 =>
 ((G 43 [A.agg [cGet t0 0, cGet t0 1]]).bind (fin false)).bind fun t1 =>
 (pWant t1 true).bind fun t2 =>
 (pG t1 true ((G 57 [A.agg [cGet t0 0, cGet t0 1]]).bind (fin false))).bind fun t3 =>
 (pPick t1 t3 (vb false)).bind fun t4 =>
 (pWant t4 true).bind fun t5 =>
 (pG t4 true (some (cGet t0 1))).bind fun t6 =>
 (pG t4 true (pIndexAddr 2 t6 (vi 0))).bind fun t7 =>
 (pG t4 true (pLoadN 2 t7)).bind fun t8 =>
 (pWant t4 true).bind fun t9 =>
 (pG t4 true (some (cGet t0 1))).bind fun t10 =>
 (pG t4 true (pIndexAddr 2 t10 (vi 1))).bind fun t11 =>
 (pG t4 true (pLoadN 2 t11)).bind fun t12 =>
 (pG t4 true ((G 139 [t8, t12]).bind (fin false))).bind fun t13 =>
 (pG t4 true (pBin .eql false t13 (vi 2))).bind fun t14 =>
 (pPick t4 t14 (vb false)).bind fun t15 =>
 some ((t15, [])) :=
 (G_eq rfl Tryz.func101 rfl rfl).trans (by kernel_rfl)
theorem g102 (a0 a1 a2 : A) : G 102 [a0, a1, a2] =
 (pCells 2 a0).bind fun t0 =>
 (pLenL (cGet t0 1)).bind fun t1 =>
 L102_0 a1 a2 (cGet t0 1) t1 (vi 0) (cGet t0 0) (cGet t0 1) (sv []) [] :=
 (G_eq rfl Tryz.func102 rfl rfl).trans (by kernel_rfl)
theorem l102_0 (x0 x1 x2 x3 x4 x5 x6 x7 : A) (r0 : List (List A)) : L102_0 x0 x1 x2 x3 x4 x5 x6 x7 r0 =
 (pBin .lss false x4 x3).bind fun t2 =>
 (pBool t2).bind fun t3 =>
 brn t3 (
 (pIndexAddr 2 x2 x4).bind fun t4 =>
 (pLoadN 2 t4).bind fun t5 =>
 (pCells 2 t5).bind fun t6 =>
 ((G 102 [A.agg [cGet t6 0, cGet t6 1], x0, vb true]).bind (fin false)).bind fun t7 =>
 (pTup t7 0).bind fun t8 =>
 (pTup t7 1).bind fun t9 =>
 (pCells 2 t8).bind fun t10 =>
 (pBool t9).bind fun t11 =>
 brn t11 (
 (C46_0 x5 x6).bind fun t12 =>
 (hD t12 0).bind fun t13 =>
 (hR 2 t12 1).bind fun t14 =>
 brn (okA t13) (
 (pIx (rLenN t14) x4).bind fun t15 =>
 brn (okA (cGet t10 0)) (
 brn (okA (cGet t10 1)) (
 (rGet t14 t15).bind fun t16 =>
 brn (okA t13) (
 some ((A.tup [A.agg [t13, A.sl 2 (rSet t14 t15 (cOver t16 0 [cGet t10 0, cGet t10 1]))], vb true], []))) (
 none)) (
 none)) (
 none)) (
 none)) (
 (pBin .add false x4 (vi 1)).bind fun t17 =>
 L102_0 x0 x1 x2 x3 t17 x5 x6 x7 r0)) (
 (pLenL x0).bind fun t18 =>
 L102_1 x1 x0 t18 (vi 0) x5 x6 x7 r0) :=
 (H_eq Tryz.func102 rfl).trans (by kernel_rfl)
theorem l102_1 (x0 x1 x2 x3 x4 x5 x6 : A) (r0 : List (List A)) : L102_1 x0 x1 x2 x3 x4 x5 x6 r0 =
 (pBin .lss false x3 x2).bind fun t19 =>
 (pBool t19).bind fun t20 =>
 brn t20 (
 (pIndexAddr 2 x1 x3).bind fun t21 =>
 (pLoadN 2 t21).bind fun t22 =>
 (pCells 2 t22).bind fun t23 =>
 (pWant x0 true).bind fun t24 =>
 (pWant x0 true).bind fun t25 =>
 (pG x0 true (some (cGet t23 1))).bind fun t26 =>
 (pG x0 true (pIndexAddr 2 t26 (vi 0))).bind fun t27 =>
 (pG x0 true (pLoadN 2 t27)).bind fun t28 =>
 (pWant x0 true).bind fun t29 =>
 (pWant x0 true).bind fun t30 =>
 brn t30 (
 (C140_0 t28 x4 x5 []).bind fun t31 =>
 (hD t31 0).bind fun t32 =>
 (hR 128 t31 1).bind fun t33 =>
 (pPick x0 t32 (vb false)).bind fun t34 =>
 (pBool t34).bind fun t35 =>
 brn t35 (
 (pIndexAddr 2 (cGet t23 1) (vi 1)).bind fun t36 =>
 (pLoadN 2 t36).bind fun t37 =>
 (G 141 [t37, A.mp t33]).bind fun t38 =>
 (fin false t38).bind fun t39 =>
 (pCells 2 t39).bind fun t40 =>
 some ((A.tup [A.agg [cGet t40 0, cGet t40 1], vb true], []))) (
 (pBin .add false x3 (vi 1)).bind fun t41 =>
 L102_1 x0 x1 x2 t41 x4 x5 x6 r0)) (
 (pPick x0 (A.val undef) (vb false)).bind fun t42 =>
 (pBool t42).bind fun t43 =>
 brn t43 (
 (pIndexAddr 2 (cGet t23 1) (vi 1)).bind fun t44 =>
 (pLoadN 2 t44).bind fun t45 =>
 (G 141 [t45, A.mp []]).bind fun t46 =>
 (fin false t46).bind fun t47 =>
 (pCells 2 t47).bind fun t48 =>
 some ((A.tup [A.agg [cGet t48 0, cGet t48 1], vb true], []))) (
 (pBin .add false x3 (vi 1)).bind fun t49 =>
 L102_1 x0 x1 x2 t49 x4 x5 x6 r0))) (
 some ((A.tup [A.agg [sv [], A.sl 2 []], vb false], []))) :=
 (H_eq Tryz.func102 rfl).trans (by kernel_rfl)
theorem c103_0 (x0 x1 x2 x3 : A) : C103_0 x0 x1 x2 x3 =
 (pBin .leq false x0 (vi 1)).bind fun t0 =>
 (pBool t0).bind fun t1 =>
 brn t1 (
 some ((A.top, [x1, x2, x3, vi 0]))) (
 (C142_0 x1 x2 x3).bind fun t2 =>
 (hD t2 0).bind fun t3 =>
 (hD t2 1).bind fun t4 =>
 (hD t2 2).bind fun t5 =>
 (hD t2 3).bind fun t6 =>
 (pBin .gtr false x0 (vi 200)).bind fun t7 =>
 (pBool t7).bind fun t8 =>
 brn t8 (
 (pBin .mul false t6 (vi 256)).bind fun t9 =>
 (C142_0 t3 t4 t5).bind fun t10 =>
 (hD t10 0).bind fun t11 =>
 (hD t10 1).bind fun t12 =>
 (hD t10 2).bind fun t13 =>
 (hD t10 3).bind fun t14 =>
 (pBin .add false t9 t14).bind fun t15 =>
 (pBin .rem false t15 x0).bind fun t16 =>
 some ((A.top, [t11, t12, t13, t16]))) (
 (pBin .rem false t6 x0).bind fun t17 =>
 some ((A.top, [t3, t4, t5, t17])))) :=
 (V_eq rfl Tryz.func103 rfl rfl).trans (by kernel_rfl)
theorem c104_0 (x0 x1 x2 : A) : C104_0 x0 x1 x2 =
 (C109_0 (vi 3) x0 x1 x2).bind fun t0 =>
 (hD t0 0).bind fun t1 =>
 (hD t0 1).bind fun t2 =>
 (hD t0 2).bind fun t3 =>
 (hD t0 3).bind fun t4 =>
 (hR 2 t0 4).bind fun t5 =>
 (C109_0 (vi 2) t1 t2 t3).bind fun t6 =>
 (hD t6 0).bind fun t7 =>
 (hD t6 1).bind fun t8 =>
 (hD t6 2).bind fun t9 =>
 (hD t6 3).bind fun t10 =>
 (hR 2 t6 4).bind fun t11 =>
 brn (okA t4) (
 brn (okA t10) (
 (C67_0 (vi 3) t7 t8 t9).bind fun t12 =>
 (hD t12 0).bind fun t13 =>
 (hD t12 1).bind fun t14 =>
 (hD t12 2).bind fun t15 =>
 (hD t12 3).bind fun t16 =>
 (pBool t16).bind fun t17 =>
 brn t17 (
 (C143_0 t13 t14 t15 [[sv [97]], [sv [98]], [sv [88]], [sv [89]]]).bind fun t18 =>
 (hD t18 0).bind fun t19 =>
 (hD t18 1).bind fun t20 =>
 (hD t18 2).bind fun t21 =>
 (hD t18 3).bind fun t22 =>
 brn (okA t22) (
 brn (okA t22) (
 ((G 132 [A.agg [t4, A.sl 2 t5], A.agg [t22, A.sl 2 []]]).bind (fin true)).bind fun t23 =>
 (pBin .eql false t23 (vi 3)).bind fun t24 =>
 (pBool t24).bind fun t25 =>
 brn t25 (
 brn (okA t22) (
 brn (okA t4) (
 some ((A.top, [t19, t20, t21, A.agg [sv [61], A.sl 2 [[t22, A.sl 2 []], [t4, A.sl 2 t5]]]]))) (
 none)) (
 none)) (
 brn (okA t4) (
 brn (okA t22) (
 some ((A.top, [t19, t20, t21, A.agg [sv [61], A.sl 2 [[t4, A.sl 2 t5], [t22, A.sl 2 []]]]]))) (
 none)) (
 none))) (
 none)) (
 none)) (
 ((G 132 [A.agg [t4, A.sl 2 t5], A.agg [t10, A.sl 2 t11]]).bind (fin true)).bind fun t26 =>
 (pBin .eql false t26 (vi 3)).bind fun t27 =>
 (pBool t27).bind fun t28 =>
 brn t28 (
 brn (okA t10) (
 brn (okA t4) (
 some ((A.top, [t13, t14, t15, A.agg [sv [61], A.sl 2 [[t10, A.sl 2 t11], [t4, A.sl 2 t5]]]]))) (
 none)) (
 none)) (
 brn (okA t4) (
 brn (okA t10) (
 some ((A.top, [t13, t14, t15, A.agg [sv [61], A.sl 2 [[t4, A.sl 2 t5], [t10, A.sl 2 t11]]]]))) (
 none)) (
 none)))) (
 none)) (
 none) :=
 (V_eq rfl Tryz.func104 rfl rfl).trans (by kernel_rfl)
theorem c105_0 (x0 x1 x2 : A) : C105_0 x0 x1 x2 =
 (C103_0 (vi 8) x0 x1 x2).bind fun t0 =>
 (hD t0 0).bind fun t1 =>
 (hD t0 1).bind fun t2 =>
 (hD t0 2).bind fun t3 =>
 (hD t0 3).bind fun t4 =>
 (pBin .eql false t4 (vi 0)).bind fun t5 =>
 (pBool t5).bind fun t6 =>
 brn t6 (
 (pBool t5).bind fun t7 =>
 brn t7 (
 (C70_0 t1 t2 t3).bind fun t8 =>
 (hD t8 0).bind fun t9 =>
 (hD t8 1).bind fun t10 =>
 (hD t8 2).bind fun t11 =>
 (hD t8 3).bind fun t12 =>
 (hR 2 t8 4).bind fun t13 =>
 (C70_0 t9 t10 t11).bind fun t14 =>
 (hD t14 0).bind fun t15 =>
 (hD t14 1).bind fun t16 =>
 (hD t14 2).bind fun t17 =>
 (hD t14 3).bind fun t18 =>
 (hR 2 t14 4).bind fun t19 =>
 brn (okA t12) (
 brn (okA t18) (
 some ((A.top, [t15, t16, t17, sv [61], A.sl 2 [[t12, A.sl 2 t13], [t18, A.sl 2 t19]]]))) (
 none)) (
 none)) (
 (pBin .eql false t4 (vi 2)).bind fun t20 =>
 (pBool t20).bind fun t21 =>
 brn t21 (
 some ((A.top, [t1, t2, t3, sv [114], A.sl 2 []]))) (
 (pBin .eql false t4 (vi 3)).bind fun t22 =>
 (pBool t22).bind fun t23 =>
 brn t23 (
 (pBool t22).bind fun t24 =>
 brn t24 (
 (C109_0 (vi 2) t1 t2 t3).bind fun t25 =>
 (hD t25 0).bind fun t26 =>
 (hD t25 1).bind fun t27 =>
 (hD t25 2).bind fun t28 =>
 (hD t25 3).bind fun t29 =>
 (hR 2 t25 4).bind fun t30 =>
 (C109_0 (vi 2) t26 t27 t28).bind fun t31 =>
 (hD t31 0).bind fun t32 =>
 (hD t31 1).bind fun t33 =>
 (hD t31 2).bind fun t34 =>
 (hD t31 3).bind fun t35 =>
 (hR 2 t31 4).bind fun t36 =>
 brn (okA t29) (
 brn (okA t35) (
 some ((A.top, [t32, t33, t34, sv [113], A.sl 2 [[t29, A.sl 2 t30], [t35, A.sl 2 t36]]]))) (
 none)) (
 none)) (
 (C109_0 (vi 2) t1 t2 t3).bind fun t37 =>
 (hD t37 0).bind fun t38 =>
 (hD t37 1).bind fun t39 =>
 (hD t37 2).bind fun t40 =>
 (hD t37 3).bind fun t41 =>
 (hR 2 t37 4).bind fun t42 =>
 brn (okA t41) (
 some ((A.top, [t38, t39, t40, sv [112], A.sl 2 [[t41, A.sl 2 t42]]]))) (
 none))) (
 (pBin .eql false t4 (vi 4)).bind fun t43 =>
 (pBool t43).bind fun t44 =>
 brn t44 (
 (C109_0 (vi 2) t1 t2 t3).bind fun t45 =>
 (hD t45 0).bind fun t46 =>
 (hD t45 1).bind fun t47 =>
 (hD t45 2).bind fun t48 =>
 (hD t45 3).bind fun t49 =>
 (hR 2 t45 4).bind fun t50 =>
 (C109_0 (vi 2) t46 t47 t48).bind fun t51 =>
 (hD t51 0).bind fun t52 =>
 (hD t51 1).bind fun t53 =>
 (hD t51 2).bind fun t54 =>
 (hD t51 3).bind fun t55 =>
 (hR 2 t51 4).bind fun t56 =>
 brn (okA t49) (
 brn (okA t55) (
 some ((A.top, [t52, t53, t54, sv [113], A.sl 2 [[t49, A.sl 2 t50], [t55, A.sl 2 t56]]]))) (
 none)) (
 none)) (
 (C109_0 (vi 2) t1 t2 t3).bind fun t57 =>
 (hD t57 0).bind fun t58 =>
 (hD t57 1).bind fun t59 =>
 (hD t57 2).bind fun t60 =>
 (hD t57 3).bind fun t61 =>
 (hR 2 t57 4).bind fun t62 =>
 brn (okA t61) (
 some ((A.top, [t58, t59, t60, sv [112], A.sl 2 [[t61, A.sl 2 t62]]]))) (
 none)))))) (
 (pBin .eql false t4 (vi 1)).bind fun t63 =>
 (pBool t63).bind fun t64 =>
 brn t64 (
 (C70_0 t1 t2 t3).bind fun t65 =>
 (hD t65 0).bind fun t66 =>
 (hD t65 1).bind fun t67 =>
 (hD t65 2).bind fun t68 =>
 (hD t65 3).bind fun t69 =>
 (hR 2 t65 4).bind fun t70 =>
 (C70_0 t66 t67 t68).bind fun t71 =>
 (hD t71 0).bind fun t72 =>
 (hD t71 1).bind fun t73 =>
 (hD t71 2).bind fun t74 =>
 (hD t71 3).bind fun t75 =>
 (hR 2 t71 4).bind fun t76 =>
 brn (okA t69) (
 brn (okA t75) (
 some ((A.top, [t72, t73, t74, sv [61], A.sl 2 [[t69, A.sl 2 t70], [t75, A.sl 2 t76]]]))) (
 none)) (
 none)) (
 (pBin .eql false t4 (vi 2)).bind fun t77 =>
 (pBool t77).bind fun t78 =>
 brn t78 (
 some ((A.top, [t1, t2, t3, sv [114], A.sl 2 []]))) (
 (pBin .eql false t4 (vi 3)).bind fun t79 =>
 (pBool t79).bind fun t80 =>
 brn t80 (
 (pBool t79).bind fun t81 =>
 brn t81 (
 (C109_0 (vi 2) t1 t2 t3).bind fun t82 =>
 (hD t82 0).bind fun t83 =>
 (hD t82 1).bind fun t84 =>
 (hD t82 2).bind fun t85 =>
 (hD t82 3).bind fun t86 =>
 (hR 2 t82 4).bind fun t87 =>
 (C109_0 (vi 2) t83 t84 t85).bind fun t88 =>
 (hD t88 0).bind fun t89 =>
 (hD t88 1).bind fun t90 =>
 (hD t88 2).bind fun t91 =>
 (hD t88 3).bind fun t92 =>
 (hR 2 t88 4).bind fun t93 =>
 brn (okA t86) (
 brn (okA t92) (
 some ((A.top, [t89, t90, t91, sv [113], A.sl 2 [[t86, A.sl 2 t87], [t92, A.sl 2 t93]]]))) (
 none)) (
 none)) (
 (C109_0 (vi 2) t1 t2 t3).bind fun t94 =>
 (hD t94 0).bind fun t95 =>
 (hD t94 1).bind fun t96 =>
 (hD t94 2).bind fun t97 =>
 (hD t94 3).bind fun t98 =>
 (hR 2 t94 4).bind fun t99 =>
 brn (okA t98) (
 some ((A.top, [t95, t96, t97, sv [112], A.sl 2 [[t98, A.sl 2 t99]]]))) (
 none))) (
 (pBin .eql false t4 (vi 4)).bind fun t100 =>
 (pBool t100).bind fun t101 =>
 brn t101 (
 (C109_0 (vi 2) t1 t2 t3).bind fun t102 =>
 (hD t102 0).bind fun t103 =>
 (hD t102 1).bind fun t104 =>
 (hD t102 2).bind fun t105 =>
 (hD t102 3).bind fun t106 =>
 (hR 2 t102 4).bind fun t107 =>
 (C109_0 (vi 2) t103 t104 t105).bind fun t108 =>
 (hD t108 0).bind fun t109 =>
 (hD t108 1).bind fun t110 =>
 (hD t108 2).bind fun t111 =>
 (hD t108 3).bind fun t112 =>
 (hR 2 t108 4).bind fun t113 =>
 brn (okA t106) (
 brn (okA t112) (
 some ((A.top, [t109, t110, t111, sv [113], A.sl 2 [[t106, A.sl 2 t107], [t112, A.sl 2 t113]]]))) (
 none)) (
 none)) (
 (C109_0 (vi 2) t1 t2 t3).bind fun t114 =>
 (hD t114 0).bind fun t115 =>
 (hD t114 1).bind fun t116 =>
 (hD t114 2).bind fun t117 =>
 (hD t114 3).bind fun t118 =>
 (hR 2 t114 4).bind fun t119 =>
 brn (okA t118) (
 some ((A.top, [t115, t116, t117, sv [112], A.sl 2 [[t118, A.sl 2 t119]]]))) (
 none)))))) :=
 (V_eq rfl Tryz.func105 rfl rfl).trans (by kernel_rfl)
theorem c106_0 (x0 x1 x2 : A) : C106_0 x0 x1 x2 =
  (C70_0 x0 x1 x2).bind fun t0 =>
  (hD t0 0).bind fun t1 =>
  (hD t0 1).bind fun t2 =>
  (hD t0 2).bind fun t3 =>
  (hD t0 3).bind fun t4 =>
  (hR 2 t0 4).bind fun t5 =>
  brn (okA t4) (
    (C103_0 (vi 24) t1 t2 t3).bind fun t6 =>
    (hD t6 0).bind fun t7 =>
    (hD t6 1).bind fun t8 =>
    (hD t6 2).bind fun t9 =>
    (hD t6 3).bind fun t10 =>
    (pBin .eql false t10 (vi 0)).bind fun t11 =>
    (pBool t11).bind fun t12 =>
    brn t12 (
      (C143_0 t7 t8 t9 [[sv []], [sv [116, 114, 117, 101]], [sv [116, 114, 117, 116, 104]], [sv [105, 102]], [sv [88, 121, 122, 57]], [sv [88, 121, 122, 57, 57]], [sv [120, 65]], [sv [97, 95, 98]], [sv [97, 98, 99, 100, 101, 102]], [sv [97, 98, 99, 100, 101, 102, 103]], [sv [95, 97]], [sv [57]], [sv [88, 95]], [sv [61]]]).bind fun t13 =>
      (hD t13 0).bind fun t14 =>
      (hD t13 1).bind fun t15 =>
      (hD t13 2).bind fun t16 =>
      (hD t13 3).bind fun t17 =>
      brn (okA t17) (
        brn (okA t17) (
          some ((A.top, [t14, t15, t16, A.agg [t17, A.sl 2 t5]]))) (
          none)) (
        none)) (
      (pBin .eql false t10 (vi 1)).bind fun t18 =>
      (pBool t18).bind fun t19 =>
      brn t19 (
        (C103_0 (vi 3) t7 t8 t9).bind fun t20 =>
        (hD t20 0).bind fun t21 =>
        (hD t20 1).bind fun t22 =>
        (hD t20 2).bind fun t23 =>
        (hD t20 3).bind fun t24 =>
        (pBin .add false (vi 7) t24).bind fun t25 =>
        (C144_0 t25 t21 t22 t23).bind fun t26 =>
        (hD t26 0).bind fun t27 =>
        (hD t26 1).bind fun t28 =>
        (hD t26 2).bind fun t29 =>
        (hD t26 3).bind fun t30 =>
        (hR 2 t26 4).bind fun t31 =>
        brn (okA t30) (
          some ((A.top, [t27, t28, t29, A.agg [t30, A.sl 2 t31]]))) (
          none)) (
        (pBin .eql false t10 (vi 2)).bind fun t32 =>
        (pBool t32).bind fun t33 =>
        brn t33 (
          (C145_0 t7 t8 t9).bind fun t34 =>
          (hD t34 0).bind fun t35 =>
          (hD t34 1).bind fun t36 =>
          (hD t34 2).bind fun t37 =>
          (hD t34 3).bind fun t38 =>
          (pCells 2 t38).bind fun t39 =>
          some ((A.top, [t35, t36, t37, A.agg [cGet t39 0, cGet t39 1]]))) (
          (pBin .eql false t10 (vi 3)).bind fun t40 =>
          (pBool t40).bind fun t41 =>
          brn t41 (
            (C70_0 t7 t8 t9).bind fun t42 =>
            (hD t42 0).bind fun t43 =>
            (hD t42 1).bind fun t44 =>
            (hD t42 2).bind fun t45 =>
            (hD t42 3).bind fun t46 =>
            (hR 2 t42 4).bind fun t47 =>
            (C70_0 t43 t44 t45).bind fun t48 =>
            (hD t48 0).bind fun t49 =>
            (hD t48 1).bind fun t50 =>
            (hD t48 2).bind fun t51 =>
            (hD t48 3).bind fun t52 =>
            (hR 2 t48 4).bind fun t53 =>
            (C70_0 t49 t50 t51).bind fun t54 =>
            (hD t54 0).bind fun t55 =>
            (hD t54 1).bind fun t56 =>
            (hD t54 2).bind fun t57 =>
            (hD t54 3).bind fun t58 =>
            (hR 2 t54 4).bind fun t59 =>
            brn (okA t46) (
              brn (okA t52) (
                brn (okA t58) (
                  brn (pFit ((rLenN t5) + (rLenN [[t46, A.sl 2 t47], [t52, A.sl 2 t53], [t58, A.sl 2 t59]])) 40) (
                    brn (okA t4) (
                      some ((A.top, [t55, t56, t57, A.agg [t4, A.sl 2 (rApp t5 [[t46, A.sl 2 t47], [t52, A.sl 2 t53], [t58, A.sl 2 t59]])]]))) (
                      none)) (
                    none)) (
                  none)) (
                none)) (
              none)) (
            (pBin .eql false t10 (vi 4)).bind fun t60 =>
            (pBool t60).bind fun t61 =>
            brn t61 (
              (pBin .gtr false (rLen t5) (vi 0)).bind fun t62 =>
              (pBool t62).bind fun t63 =>
              brn t63 (
                (C143_0 t7 t8 t9 [[sv [61]], [sv []], [sv [81, 49]], [sv [98, 50]]]).bind fun t64 =>
                (hD t64 0).bind fun t65 =>
                (hD t64 1).bind fun t66 =>
                (hD t64 2).bind fun t67 =>
                (hD t64 3).bind fun t68 =>
                (pIx (rLenN t5) (vi 0)).bind fun t69 =>
                (pRowP t5 t69 1).bind fun t70 =>
                (buildA (fun f =>
  match (Go.Proofs.YtnbjmmldjggkfaaGreat.K.at 106).D 33 with
  | some i =>
    match i.kind with
    | Go.Proofs.YtnbjmmldjggkfaaGreat.Abs.TK.struct fs =>
      match fs[f]? with
      | some (off, t) =>
        match (Go.Proofs.YtnbjmmldjggkfaaGreat.K.at 106).D t with
        | some j => if j.kind.known = true then some (off, j) else none
        | none => none
      | none => none
    | x => none
  | none => none) [sv [], A.sl 2 []] [(0, t68), (1, t70)]).bind fun t71 =>
                (pIx (rLenN t5) (vi 0)).bind fun t72 =>
                (pCells 2 t71).bind fun t73 =>
                (rGet t5 t72).bind fun t74 =>
                brn (okA t4) (
                  some ((A.top, [t65, t66, t67, A.agg [t4, A.sl 2 (rSet t5 t72 (cOver t74 0 [cGet t73 0, cGet t73 1]))]]))) (
                  none)) (
                brn (okA t4) (
                  some ((A.top, [t7, t8, t9, A.agg [t4, A.sl 2 t5]]))) (
                  none))) (
              brn (okA t4) (
                some ((A.top, [t7, t8, t9, A.agg [t4, A.sl 2 t5]]))) (
                none))))))) (
    none) :=
  (V_eq rfl Tryz.func106 rfl rfl).trans (by kernel_rfl)
theorem g107 (a0 a1 : A) : G 107 [a0, a1] =
 (pCells 1 a0).bind fun t0 =>
 L107_0 a1 (vi 0) (cGet t0 0) :=
 (G_eq rfl Tryz.func107 rfl rfl).trans (by kernel_rfl)
theorem l107_0 (x0 x1 x2 : A) : L107_0 x0 x1 x2 =
 (pLenL x2).bind fun t1 =>
 (pBin .lss false x1 t1).bind fun t2 =>
 (pBool t2).bind fun t3 =>
 brn t3 (
 (pIndexAddr 3 x2 x1).bind fun t4 =>
 (pAdd t4 0).bind fun t5 =>
 (pLoadP t5).bind fun t6 =>
 (pBin .eql false t6 x0).bind fun t7 =>
 (pBool t7).bind fun t8 =>
 brn t8 (
 some ((x1, []))) (
 (pBin .add false x1 (vi 1)).bind fun t9 =>
 L107_0 x0 t9 x2)) (
 some ((vi (-1), []))) :=
 (H_eq Tryz.func107 rfl).trans (by kernel_rfl)
theorem c108_0 (x0 x1 : A) (r0 : List (List A)) : C108_0 x0 x1 r0 =
 (pCells 2 x1).bind fun t0 =>
 (pBin .eql false (cGet t0 0) x0).bind fun t1 =>
 (pBool t1).bind fun t2 =>
 brn t2 (
 some ((A.top, [A.sl 3 r0]))) (
 L108c0_0 x0 (vi 0) (cGet t0 0) (cGet t0 1) r0 []) :=
 (V_eq rfl Tryz.func108 rfl rfl).trans (by kernel_rfl)
theorem l108c0_0 (x0 x1 x2 x3 : A) (r0 r1 : List (List A)) : L108c0_0 x0 x1 x2 x3 r0 r1 =
  (pBin .lss false x1 (rLen r0)).bind fun t3 =>
  (pWant t3 true).bind fun t4 =>
  (pWant t3 true).bind fun t5 =>
  (pG t3 true (some x1)).bind fun t6 =>
  (pWant t3 true).bind fun t7 =>
  brn t7 (
    (pIx (rLenN r0) t6).bind fun t8 =>
    (pWant t3 true).bind fun t9 =>
    (pG t3 true (pRowP r0 t8 0)).bind fun t10 =>
    (pG t3 true (some x0)).bind fun t11 =>
    (pG t3 true (pBin .lss false t10 t11)).bind fun t12 =>
    (pPick t3 t12 (vb false)).bind fun t13 =>
    (pBool t13).bind fun t14 =>
    brn t14 (
      (pBin .add false x1 (vi 1)).bind fun t15 =>
      L108c0_0 x0 t15 x2 x3 r0 r1) (
      (pB (rCnt r0) (rRem r0 0) (some x1)).bind fun t16 =>
      brn (pFit (rLenN (rWin r0 0 (nSub t16 0))) 56) (
        (G 40 [A.agg [x2, x3]]).bind fun t17 =>
        (fin false t17).bind fun t18 =>
        (buildA (fun f =>
  match (Go.Proofs.YtnbjmmldjggkfaaGreat.K.at 108).D 114 with
  | some i =>
    match i.kind with
    | Go.Proofs.YtnbjmmldjggkfaaGreat.Abs.TK.struct fs =>
      match fs[f]? with
      | some (off, t) =>
        match (Go.Proofs.YtnbjmmldjggkfaaGreat.K.at 108).D t with
        | some j => if j.kind.known = true then some (off, j) else none
        | none => none
      | none => none
    | x => none
  | none => none) [sv [], sv [], A.sl 2 []] [(0, x0), (1, t18)]).bind fun t19 =>
        (pCells 3 t19).bind fun t20 =>
        brn (pFit ((rLenN (rWin r0 0 (nSub t16 0))) + (rLenN [[cGet t20 0, cGet t20 1, cGet t20 2]])) 56) (
          (pB (rCnt r0) (rRem r0 0) none).bind fun t21 =>
          (pB 0 t21 (some x1)).bind fun t22 =>
          brn (pFit ((rLenN (rApp (rWin r0 0 (nSub t16 0)) [[cGet t20 0, cGet t20 1, cGet t20 2]])) + (rLenN (rWin r0 (0 + t22) (nSub t21 t22)))) 56) (
            some ((A.top, [A.sl 3 (rApp (rApp (rWin r0 0 (nSub t16 0)) [[cGet t20 0, cGet t20 1, cGet t20 2]]) (rWin r0 (0 + t22) (nSub t21 t22)))]))) (
            none)) (
          none)) (
        none))) (
    (pG t3 true (pAdd (A.val undef) 0)).bind fun t23 =>
    (pG t3 true (pLoadP t23)).bind fun t24 =>
    (pG t3 true (some x0)).bind fun t25 =>
    (pG t3 true (pBin .lss false t24 t25)).bind fun t26 =>
    (pPick t3 t26 (vb false)).bind fun t27 =>
    (pBool t27).bind fun t28 =>
    brn t28 (
      (pBin .add false x1 (vi 1)).bind fun t29 =>
      L108c0_0 x0 t29 x2 x3 r0 r1) (
      (pB (rCnt r0) (rRem r0 0) (some x1)).bind fun t30 =>
      brn (pFit (rLenN (rWin r0 0 (nSub t30 0))) 56) (
        (G 40 [A.agg [x2, x3]]).bind fun t31 =>
        (fin false t31).bind fun t32 =>
        (buildA (fun f =>
  match (Go.Proofs.YtnbjmmldjggkfaaGreat.K.at 108).D 114 with
  | some i =>
    match i.kind with
    | Go.Proofs.YtnbjmmldjggkfaaGreat.Abs.TK.struct fs =>
      match fs[f]? with
      | some (off, t) =>
        match (Go.Proofs.YtnbjmmldjggkfaaGreat.K.at 108).D t with
        | some j => if j.kind.known = true then some (off, j) else none
        | none => none
      | none => none
    | x => none
  | none => none) [sv [], sv [], A.sl 2 []] [(0, x0), (1, t32)]).bind fun t33 =>
        (pCells 3 t33).bind fun t34 =>
        brn (pFit ((rLenN (rWin r0 0 (nSub t30 0))) + (rLenN [[cGet t34 0, cGet t34 1, cGet t34 2]])) 56) (
          (pB (rCnt r0) (rRem r0 0) none).bind fun t35 =>
          (pB 0 t35 (some x1)).bind fun t36 =>
          brn (pFit ((rLenN (rApp (rWin r0 0 (nSub t30 0)) [[cGet t34 0, cGet t34 1, cGet t34 2]])) + (rLenN (rWin r0 (0 + t36) (nSub t35 t36)))) 56) (
            some ((A.top, [A.sl 3 (rApp (rApp (rWin r0 0 (nSub t30 0)) [[cGet t34 0, cGet t34 1, cGet t34 2]]) (rWin r0 (0 + t36) (nSub t35 t36)))]))) (
            none)) (
          none)) (
        none))) :=
  (H_eq Tryz.func108 rfl).trans (by kernel_rfl)
theorem c108_1 (x0 x1 : A) (r0 r1 : List (List A)) : C108_1 x0 x1 r0 r1 =
 brn (okA x1) (
 (pBin .eql false x1 x0).bind fun t0 =>
 (pBool t0).bind fun t1 =>
 brn t1 (
 some ((A.top, [A.sl 3 r0]))) (
 L108c1_0 x0 (vi 0) x1 r0 r1 [])) (
 none) :=
 (V_eq rfl Tryz.func108 rfl rfl).trans (by kernel_rfl)
theorem l108c1_0 (x0 x1 x2 : A) (r0 r1 r2 : List (List A)) : L108c1_0 x0 x1 x2 r0 r1 r2 =
  (pBin .lss false x1 (rLen r0)).bind fun t2 =>
  (pWant t2 true).bind fun t3 =>
  (pWant t2 true).bind fun t4 =>
  (pG t2 true (some x1)).bind fun t5 =>
  (pWant t2 true).bind fun t6 =>
  brn t6 (
    (pIx (rLenN r0) t5).bind fun t7 =>
    (pWant t2 true).bind fun t8 =>
    (pG t2 true (pRowP r0 t7 0)).bind fun t9 =>
    (pG t2 true (some x0)).bind fun t10 =>
    (pG t2 true (pBin .lss false t9 t10)).bind fun t11 =>
    (pPick t2 t11 (vb false)).bind fun t12 =>
    (pBool t12).bind fun t13 =>
    brn t13 (
      (pBin .add false x1 (vi 1)).bind fun t14 =>
      L108c1_0 x0 t14 x2 r0 r1 r2) (
      (pB (rCnt r0) (rRem r0 0) (some x1)).bind fun t15 =>
      brn (pFit (rLenN (rWin r0 0 (nSub t15 0))) 56) (
        (G 40 [A.agg [x2, A.sl 2 r1]]).bind fun t16 =>
        (fin false t16).bind fun t17 =>
        (buildA (fun f =>
  match (Go.Proofs.YtnbjmmldjggkfaaGreat.K.at 108).D 114 with
  | some i =>
    match i.kind with
    | Go.Proofs.YtnbjmmldjggkfaaGreat.Abs.TK.struct fs =>
      match fs[f]? with
      | some (off, t) =>
        match (Go.Proofs.YtnbjmmldjggkfaaGreat.K.at 108).D t with
        | some j => if j.kind.known = true then some (off, j) else none
        | none => none
      | none => none
    | x => none
  | none => none) [sv [], sv [], A.sl 2 []] [(0, x0), (1, t17)]).bind fun t18 =>
        (pCells 3 t18).bind fun t19 =>
        brn (pFit ((rLenN (rWin r0 0 (nSub t15 0))) + (rLenN [[cGet t19 0, cGet t19 1, cGet t19 2]])) 56) (
          (pB (rCnt r0) (rRem r0 0) none).bind fun t20 =>
          (pB 0 t20 (some x1)).bind fun t21 =>
          brn (pFit ((rLenN (rApp (rWin r0 0 (nSub t15 0)) [[cGet t19 0, cGet t19 1, cGet t19 2]])) + (rLenN (rWin r0 (0 + t21) (nSub t20 t21)))) 56) (
            some ((A.top, [A.sl 3 (rApp (rApp (rWin r0 0 (nSub t15 0)) [[cGet t19 0, cGet t19 1, cGet t19 2]]) (rWin r0 (0 + t21) (nSub t20 t21)))]))) (
            none)) (
          none)) (
        none))) (
    (pG t2 true (pAdd (A.val undef) 0)).bind fun t22 =>
    (pG t2 true (pLoadP t22)).bind fun t23 =>
    (pG t2 true (some x0)).bind fun t24 =>
    (pG t2 true (pBin .lss false t23 t24)).bind fun t25 =>
    (pPick t2 t25 (vb false)).bind fun t26 =>
    (pBool t26).bind fun t27 =>
    brn t27 (
      (pBin .add false x1 (vi 1)).bind fun t28 =>
      L108c1_0 x0 t28 x2 r0 r1 r2) (
      (pB (rCnt r0) (rRem r0 0) (some x1)).bind fun t29 =>
      brn (pFit (rLenN (rWin r0 0 (nSub t29 0))) 56) (
        (G 40 [A.agg [x2, A.sl 2 r1]]).bind fun t30 =>
        (fin false t30).bind fun t31 =>
        (buildA (fun f =>
  match (Go.Proofs.YtnbjmmldjggkfaaGreat.K.at 108).D 114 with
  | some i =>
    match i.kind with
    | Go.Proofs.YtnbjmmldjggkfaaGreat.Abs.TK.struct fs =>
      match fs[f]? with
      | some (off, t) =>
        match (Go.Proofs.YtnbjmmldjggkfaaGreat.K.at 108).D t with
        | some j => if j.kind.known = true then some (off, j) else none
        | none => none
      | none => none
    | x => none
  | none => none) [sv [], sv [], A.sl 2 []] [(0, x0), (1, t31)]).bind fun t32 =>
        (pCells 3 t32).bind fun t33 =>
        brn (pFit ((rLenN (rWin r0 0 (nSub t29 0))) + (rLenN [[cGet t33 0, cGet t33 1, cGet t33 2]])) 56) (
          (pB (rCnt r0) (rRem r0 0) none).bind fun t34 =>
          (pB 0 t34 (some x1)).bind fun t35 =>
          brn (pFit ((rLenN (rApp (rWin r0 0 (nSub t29 0)) [[cGet t33 0, cGet t33 1, cGet t33 2]])) + (rLenN (rWin r0 (0 + t35) (nSub t34 t35)))) 56) (
            some ((A.top, [A.sl 3 (rApp (rApp (rWin r0 0 (nSub t29 0)) [[cGet t33 0, cGet t33 1, cGet t33 2]]) (rWin r0 (0 + t35) (nSub t34 t35)))]))) (
            none)) (
          none)) (
        none))) :=
  (H_eq Tryz.func108 rfl).trans (by kernel_rfl)
theorem c109_0 (x0 x1 x2 x3 : A) : C109_0 x0 x1 x2 x3 =
 (pBin .leq false x0 (vi 1)).bind fun t0 =>
 (pWant t0 false).bind fun t1 =>
 (pWant t0 false).bind fun t2 =>
 brn t2 (
 (C67_0 (vi 3) x1 x2 x3).bind fun t3 =>
 (hD t3 0).bind fun t4 =>
 (hD t3 1).bind fun t5 =>
 (hD t3 2).bind fun t6 =>
 (hD t3 3).bind fun t7 =>
 (pPick t0 (vb true) t7).bind fun t8 =>
 (pBool t8).bind fun t9 =>
 brn t9 (
 (C143_0 t4 t5 t6 [[sv [88]], [sv [89]], [sv [90]], [sv [97]], [sv [98]], [sv [88]], [sv [97]]]).bind fun t10 =>
 (hD t10 0).bind fun t11 =>
 (hD t10 1).bind fun t12 =>
 (hD t10 2).bind fun t13 =>
 (hD t10 3).bind fun t14 =>
 brn (okA t14) (
 brn (okA t14) (
 some ((A.top, [t11, t12, t13, t14, A.sl 2 []]))) (
 none)) (
 none)) (
 (C67_0 (vi 2) t4 t5 t6).bind fun t15 =>
 (hD t15 0).bind fun t16 =>
 (hD t15 1).bind fun t17 =>
 (hD t15 2).bind fun t18 =>
 (hD t15 3).bind fun t19 =>
 (pBool t19).bind fun t20 =>
 brn t20 (
 (pBin .sub false x0 (vi 1)).bind fun t21 =>
 (C109_0 t21 t16 t17 t18).bind fun t22 =>
 (hD t22 0).bind fun t23 =>
 (hD t22 1).bind fun t24 =>
 (hD t22 2).bind fun t25 =>
 (hD t22 3).bind fun t26 =>
 (hR 2 t22 4).bind fun t27 =>
 brn (okA t26) (
 some ((A.top, [t23, t24, t25, sv [102], A.sl 2 [[t26, A.sl 2 t27]]]))) (
 none)) (
 (pBin .sub false x0 (vi 1)).bind fun t28 =>
 (C109_0 t28 t16 t17 t18).bind fun t29 =>
 (hD t29 0).bind fun t30 =>
 (hD t29 1).bind fun t31 =>
 (hD t29 2).bind fun t32 =>
 (hD t29 3).bind fun t33 =>
 (hR 2 t29 4).bind fun t34 =>
 (pBin .sub false x0 (vi 1)).bind fun t35 =>
 (C109_0 t35 t30 t31 t32).bind fun t36 =>
 (hD t36 0).bind fun t37 =>
 (hD t36 1).bind fun t38 =>
 (hD t36 2).bind fun t39 =>
 (hD t36 3).bind fun t40 =>
 (hR 2 t36 4).bind fun t41 =>
 brn (okA t33) (
 brn (okA t40) (
 some ((A.top, [t37, t38, t39, sv [103], A.sl 2 [[t33, A.sl 2 t34], [t40, A.sl 2 t41]]]))) (
 none)) (
 none)))) (
 (pPick t0 (vb true) (A.val undef)).bind fun t42 =>
 (pBool t42).bind fun t43 =>
 brn t43 (
 (C143_0 x1 x2 x3 [[sv [88]], [sv [89]], [sv [90]], [sv [97]], [sv [98]], [sv [88]], [sv [97]]]).bind fun t44 =>
 (hD t44 0).bind fun t45 =>
 (hD t44 1).bind fun t46 =>
 (hD t44 2).bind fun t47 =>
 (hD t44 3).bind fun t48 =>
 brn (okA t48) (
 brn (okA t48) (
 some ((A.top, [t45, t46, t47, t48, A.sl 2 []]))) (
 none)) (
 none)) (
 (C67_0 (vi 2) x1 x2 x3).bind fun t49 =>
 (hD t49 0).bind fun t50 =>
 (hD t49 1).bind fun t51 =>
 (hD t49 2).bind fun t52 =>
 (hD t49 3).bind fun t53 =>
 (pBool t53).bind fun t54 =>
 brn t54 (
 (pBin .sub false x0 (vi 1)).bind fun t55 =>
 (C109_0 t55 t50 t51 t52).bind fun t56 =>
 (hD t56 0).bind fun t57 =>
 (hD t56 1).bind fun t58 =>
 (hD t56 2).bind fun t59 =>
 (hD t56 3).bind fun t60 =>
 (hR 2 t56 4).bind fun t61 =>
 brn (okA t60) (
 some ((A.top, [t57, t58, t59, sv [102], A.sl 2 [[t60, A.sl 2 t61]]]))) (
 none)) (
 (pBin .sub false x0 (vi 1)).bind fun t62 =>
 (C109_0 t62 t50 t51 t52).bind fun t63 =>
 (hD t63 0).bind fun t64 =>
 (hD t63 1).bind fun t65 =>
 (hD t63 2).bind fun t66 =>
 (hD t63 3).bind fun t67 =>
 (hR 2 t63 4).bind fun t68 =>
 (pBin .sub false x0 (vi 1)).bind fun t69 =>
 (C109_0 t69 t64 t65 t66).bind fun t70 =>
 (hD t70 0).bind fun t71 =>
 (hD t70 1).bind fun t72 =>
 (hD t70 2).bind fun t73 =>
 (hD t70 3).bind fun t74 =>
 (hR 2 t70 4).bind fun t75 =>
 brn (okA t67) (
 brn (okA t74) (
 some ((A.top, [t71, t72, t73, sv [103], A.sl 2 [[t67, A.sl 2 t68], [t74, A.sl 2 t75]]]))) (
 none)) (
 none)))) :=
 (V_eq rfl Tryz.func109 rfl rfl).trans (by kernel_rfl)
theorem c110_0 (x0 : A) (r0 : List (List A)) : C110_0 x0 r0 =
 (pCells 2 x0).bind fun t0 =>
 (pLenL (cGet t0 1)).bind fun t1 =>
 (pBin .eql false t1 (vi 0)).bind fun t2 =>
 (pWant t2 true).bind fun t3 =>
 (pG t2 true (some (cGet t0 0))).bind fun t4 =>
 (pG t2 true (pLenS t4)).bind fun t5 =>
 (pG t2 true (pBin .gtr false t5 (vi 0))).bind fun t6 =>
 (pPick t2 t6 (vb false)).bind fun t7 =>
 (pWant t7 true).bind fun t8 =>
 (pG t7 true (some (cGet t0 0))).bind fun t9 =>
 (pG t7 true (pIndexS t9 (vi 0))).bind fun t10 =>
 (pG t7 true (pBin .geq false t10 (vy 65))).bind fun t11 =>
 (pPick t7 t11 (vb false)).bind fun t12 =>
 (pWant t12 true).bind fun t13 =>
 (pG t12 true (some (cGet t0 0))).bind fun t14 =>
 (pG t12 true (pIndexS t14 (vi 0))).bind fun t15 =>
 (pG t12 true (pBin .leq false t15 (vy 90))).bind fun t16 =>
 (pPick t12 t16 (vb false)).bind fun t17 =>
 (pBool t17).bind fun t18 =>
 brn t18 (
 L110c0_0 (vi 0) (cGet t0 0) (cGet t0 1) r0) (
 L110c0_1 (vi 0) (cGet t0 0) (cGet t0 1) r0) :=
 (V_eq rfl Tryz.func110 rfl rfl).trans (by kernel_rfl)
theorem l110c0_0 (x0 x1 x2 : A) (r0 : List (List A)) : L110c0_0 x0 x1 x2 r0 =
 (pBin .lss false x0 (rLen r0)).bind fun t19 =>
 (pBool t19).bind fun t20 =>
 brn t20 (
 (pIx (rLenN r0) x0).bind fun t21 =>
 (pRowP r0 t21 0).bind fun t22 =>
 (pBin .eql false t22 x1).bind fun t23 =>
 (pBool t23).bind fun t24 =>
 brn t24 (
 some ((A.top, [A.sl 1 r0]))) (
 (pBin .add false x0 (vi 1)).bind fun t25 =>
 L110c0_0 t25 x1 x2 r0)) (
 brn (okA x1) (
 brn (pFit ((rLenN r0) + (rLenN [[x1]])) 16) (
 some ((A.top, [A.sl 1 (rApp r0 [[x1]])]))) (
 none)) (
 none)) :=
 (H_eq Tryz.func110 rfl).trans (by kernel_rfl)
theorem l110c0_1 (x0 x1 x2 : A) (r0 : List (List A)) : L110c0_1 x0 x1 x2 r0 =
 (pLenL x2).bind fun t26 =>
 (pBin .lss false x0 t26).bind fun t27 =>
 (pBool t27).bind fun t28 =>
 brn t28 (
 (pIndexAddr 2 x2 x0).bind fun t29 =>
 (pLoadN 2 t29).bind fun t30 =>
 (C110_0 t30 r0).bind fun t31 =>
 (hR 1 t31 0).bind fun t32 =>
 (pBin .add false x0 (vi 1)).bind fun t33 =>
 L110c0_2 t33 x1 x2 t32) (
 some ((A.top, [A.sl 1 r0]))) :=
 (H_eq Tryz.func110 rfl).trans (by kernel_rfl)
theorem l110c0_2 (x0 x1 x2 : A) (r0 : List (List A)) : L110c0_2 x0 x1 x2 r0 =
 (pLenL x2).bind fun t34 =>
 (pBin .lss false x0 t34).bind fun t35 =>
 (pBool t35).bind fun t36 =>
 brn t36 (
 (pIndexAddr 2 x2 x0).bind fun t37 =>
 (pLoadN 2 t37).bind fun t38 =>
 (C110_0 t38 r0).bind fun t39 =>
 (hR 1 t39 0).bind fun t40 =>
 (pBin .add false x0 (vi 1)).bind fun t41 =>
 L110c0_2 t41 x1 x2 t40) (
 some ((A.top, [A.sl 1 r0]))) :=
 (H_eq Tryz.func110 rfl).trans (by kernel_rfl)
theorem g111 (a0 : A) : G 111 [a0] =
 (pCells 2 a0).bind fun t0 =>
 (pLenL (cGet t0 1)).bind fun t1 =>
 L111_0 (vi 1) (cGet t0 1) t1 (vi 0) :=
 (G_eq rfl Tryz.func111 rfl rfl).trans (by kernel_rfl)
theorem l111_0 (x0 x1 x2 x3 : A) : L111_0 x0 x1 x2 x3 =
 (pBin .lss false x3 x2).bind fun t2 =>
 (pBool t2).bind fun t3 =>
 brn t3 (
 (pIndexAddr 2 x1 x3).bind fun t4 =>
 (pLoadN 2 t4).bind fun t5 =>
 (pCells 2 t5).bind fun t6 =>
 (pBin .gtr false x0 (vi 30)).bind fun t7 =>
 (pBool t7).bind fun t8 =>
 brn t8 (
 some ((x0, []))) (
 ((G 111 [A.agg [cGet t6 0, cGet t6 1]]).bind (fin false)).bind fun t9 =>
 (pBin .add false x0 t9).bind fun t10 =>
 (pBin .add false x3 (vi 1)).bind fun t11 =>
 L111_0 t10 x1 x2 t11)) (
 some ((x0, []))) :=
 (H_eq Tryz.func111 rfl).trans (by kernel_rfl)
theorem g112 (a0 : A) : G 112 [a0] =
 (pCells 2 a0).bind fun t0 =>
 (pLenL (cGet t0 1)).bind fun t1 =>
 L112_0 (vi 0) (cGet t0 1) t1 (vi 0) :=
 (G_eq rfl Tryz.func112 rfl rfl).trans (by kernel_rfl)
theorem l112_0 (x0 x1 x2 x3 : A) : L112_0 x0 x1 x2 x3 =
 (pBin .lss false x3 x2).bind fun t2 =>
 (pBool t2).bind fun t3 =>
 brn t3 (
 (pIndexAddr 2 x1 x3).bind fun t4 =>
 (pLoadN 2 t4).bind fun t5 =>
 (pCells 2 t5).bind fun t6 =>
 ((G 112 [A.agg [cGet t6 0, cGet t6 1]]).bind (fin false)).bind fun t7 =>
 (pMax x0 t7).bind fun t8 =>
 (pBin .add false x3 (vi 1)).bind fun t9 =>
 L112_0 t8 x1 x2 t9) (
 (pBin .add false x0 (vi 1)).bind fun t10 =>
 some ((t10, []))) :=
 (H_eq Tryz.func112 rfl).trans (by kernel_rfl)
theorem g113 (a0 : A) : G 113 [a0] =
 (pLenS a0).bind fun t0 =>
 L113_0 a0 t0 (vi 0) :=
 (G_eq rfl Tryz.func113 rfl rfl).trans (by kernel_rfl)
theorem l113_0 (x0 x1 x2 : A) : L113_0 x0 x1 x2 =
 (pBin .lss false x2 x1).bind fun t1 =>
 (pBool t1).bind fun t2 =>
 brn t2 (
 (pBin .eql false x2 (vi 0)).bind fun t3 =>
 (pG t3 true (some x0)).bind fun t4 =>
 (pG t3 true (some x2)).bind fun t5 =>
 (pG t3 true (pIndexS t4 t5)).bind fun t6 =>
 (pG t3 true ((G 146 [t6]).bind (fin false))).bind fun t7 =>
 (pG t3 true (pUn .not t7)).bind fun t8 =>
 (pPick t3 t8 (vb false)).bind fun t9 =>
 (pG t9 false (some x2)).bind fun t10 =>
 (pG t9 false (pBin .gtr false t10 (vi 0))).bind fun t11 =>
 (pG t9 false (some t11)).bind fun t12 =>
 (pG t12 true (some x0)).bind fun t13 =>
 (pG t12 true (some x2)).bind fun t14 =>
 (pG t12 true (pIndexS t13 t14)).bind fun t15 =>
 (pG t12 true ((G 119 [t15]).bind (fin false))).bind fun t16 =>
 (pG t12 true (pUn .not t16)).bind fun t17 =>
 (pG t9 false (pPick t12 t17 (vb false))).bind fun t18 =>
 (pG t9 false (some t18)).bind fun t19 =>
 (pG t19 true (some x0)).bind fun t20 =>
 (pG t19 true (some x2)).bind fun t21 =>
 (pG t19 true (pIndexS t20 t21)).bind fun t22 =>
 (pG t19 true ((G 120 [t22]).bind (fin false))).bind fun t23 =>
 (pG t19 true (pUn .not t23)).bind fun t24 =>
 (pG t9 false (pPick t19 t24 (vb false))).bind fun t25 =>
 (pPick t9 (vb true) t25).bind fun t26 =>
 (pBool t26).bind fun t27 =>
 brn t27 (
 some ((vb false, []))) (
 (pBin .add false x2 (vi 1)).bind fun t28 =>
 L113_0 x0 x1 t28)) (
 (pLenS x0).bind fun t29 =>
 ((G 85 [t29, vi 1, vi 4]).bind (fin false)).bind fun t30 =>
 some ((t30, []))) :=
 (H_eq Tryz.func113 rfl).trans (by kernel_rfl)
theorem g114 (a0 : A) : G 114 [a0] =
 (pCells 2 a0).bind fun t0 =>
 ((G 73 [A.agg [cGet t0 0, cGet t0 1]]).bind (fin false)).bind fun t1 =>
 (pUn .not t1).bind fun t2 =>
 some ((t2, [])) :=
 (G_eq rfl Tryz.func114 rfl rfl).trans (by kernel_rfl)
theorem g115 (a0 : A) : G 115 [a0] =
 (pBin .geq false a0 (vy 97)).bind fun t0 =>
 (pG t0 true (some a0)).bind fun t1 =>
 (pG t0 true (pBin .leq false t1 (vy 122))).bind fun t2 =>
 (pPick t0 t2 (vb false)).bind fun t3 =>
 (pG t3 false (some a0)).bind fun t4 =>
 (pG t3 false (pBin .geq false t4 (vy 48))).bind fun t5 =>
 (pG t3 false (some t5)).bind fun t6 =>
 (pG t6 true (some a0)).bind fun t7 =>
 (pG t6 true (pBin .leq false t7 (vy 57))).bind fun t8 =>
 (pG t3 false (pPick t6 t8 (vb false))).bind fun t9 =>
 (pPick t3 (vb true) t9).bind fun t10 =>
 some ((t10, [])) :=
 (G_eq rfl Tryz.func115 rfl rfl).trans (by kernel_rfl)
theorem g116 (a0 a1 : A) : G 116 [a0, a1] =
 (pCells 3 a0).bind fun t0 =>
 L116_0 a1 (vi 0) (cGet t0 0) (cGet t0 1) (cGet t0 2) :=
 (G_eq rfl Tryz.func116 rfl rfl).trans (by kernel_rfl)
theorem l116_0 (x0 x1 x2 x3 x4 : A) : L116_0 x0 x1 x2 x3 x4 =
 (pLenL x2).bind fun t1 =>
 (pBin .lss false x1 t1).bind fun t2 =>
 (pBool t2).bind fun t3 =>
 brn t3 (
 (pIndexAddr 1 x2 x1).bind fun t4 =>
 (pLoadP t4).bind fun t5 =>
 (pBin .eql false t5 x0).bind fun t6 =>
 (pBool t6).bind fun t7 =>
 brn t7 (
 some ((x1, []))) (
 (pBin .add false x1 (vi 1)).bind fun t8 =>
 L116_0 x0 t8 x2 x3 x4)) (
 some ((vi (-1), []))) :=
 (H_eq Tryz.func116 rfl).trans (by kernel_rfl)
theorem g117 (a0 : A) : G 117 [a0] =
 (pCells 2 a0).bind fun t0 =>
 ((G 147 [A.sl 1 [], A.agg [cGet t0 0, cGet t0 1]]).bind (fin false)).bind fun t1 =>
 some ((t1, [])) :=
 (G_eq rfl Tryz.func117 rfl rfl).trans (by kernel_rfl)
theorem g118 (a0 a1 : A) : G 118 [a0, a1] =
 (pCells 2 a0).bind fun t0 =>
 (pBin .eql false (cGet t0 0) a1).bind fun t1 =>
 (pBool t1).bind fun t2 =>
 brn t2 (
 L118_0 a1 (vi 1) (vi 0) (cGet t0 0) (cGet t0 1)) (
 L118_0 a1 (vi 0) (vi 0) (cGet t0 0) (cGet t0 1)) :=
 (G_eq rfl Tryz.func118 rfl rfl).trans (by kernel_rfl)
theorem l118_0 (x0 x1 x2 x3 x4 : A) : L118_0 x0 x1 x2 x3 x4 =
 (pLenL x4).bind fun t3 =>
 (pBin .lss false x2 t3).bind fun t4 =>
 (pBool t4).bind fun t5 =>
 brn t5 (
 (pIndexAddr 2 x4 x2).bind fun t6 =>
 (pLoadN 2 t6).bind fun t7 =>
 ((G 118 [t7, x0]).bind (fin false)).bind fun t8 =>
 (pBin .add false x1 t8).bind fun t9 =>
 (pBin .add false x2 (vi 1)).bind fun t10 =>
 L118_0 x0 t9 t10 x3 x4) (
 some ((x1, []))) :=
 (H_eq Tryz.func118 rfl).trans (by kernel_rfl)
theorem g119 (a0 : A) : G 119 [a0] =
 (pBin .geq false a0 (vy 97)).bind fun t0 =>
 (pG t0 true (some a0)).bind fun t1 =>
 (pG t0 true (pBin .leq false t1 (vy 122))).bind fun t2 =>
 (pPick t0 t2 (vb false)).bind fun t3 =>
 some ((t3, [])) :=
 (G_eq rfl Tryz.func119 rfl rfl).trans (by kernel_rfl)
theorem g120 (a0 : A) : G 120 [a0] =
 (pBin .geq false a0 (vy 48)).bind fun t0 =>
 (pG t0 true (some a0)).bind fun t1 =>
 (pG t0 true (pBin .leq false t1 (vy 57))).bind fun t2 =>
 (pPick t0 t2 (vb false)).bind fun t3 =>
 some ((t3, [])) :=
 (G_eq rfl Tryz.func120 rfl rfl).trans (by kernel_rfl)
theorem g121 : G 121 [] =
 some ((A.sl 1 [[sv [116, 114, 117, 101]], [sv [102, 97, 108, 115, 101]], [sv [116, 114, 117, 116, 104]], [sv [98, 111, 116, 104]], [sv [101, 105, 116, 104, 101, 114]], [sv [105, 102]], [sv [97, 108, 108]], [sv [115, 111, 109, 101]]], [])) :=
 (G_eq rfl Tryz.func121 rfl rfl).trans (by kernel_rfl)
theorem g122 (a0 a1 : A) : G 122 [a0, a1] =
 (pLenL a0).bind fun t0 =>
 L122_0 a0 a1 t0 (vi 0) :=
 (G_eq rfl Tryz.func122 rfl rfl).trans (by kernel_rfl)
theorem l122_0 (x0 x1 x2 x3 : A) : L122_0 x0 x1 x2 x3 =
 (pBin .lss false x3 x2).bind fun t1 =>
 (pBool t1).bind fun t2 =>
 brn t2 (
 (pIndexAddr 1 x0 x3).bind fun t3 =>
 (pLoadP t3).bind fun t4 =>
 (pBin .eql false x1 t4).bind fun t5 =>
 (pBool t5).bind fun t6 =>
 brn t6 (
 some ((x3, []))) (
 (pBin .add false x3 (vi 1)).bind fun t7 =>
 L122_0 x0 x1 x2 t7)) (
 some ((vi (-1), []))) :=
 (H_eq Tryz.func122 rfl).trans (by kernel_rfl)
theorem g123 (a0 : A) : G 123 [a0] =
 (pCells 2 a0).bind fun t0 =>
 (pIndexS (cGet t0 0) (vi 0)).bind fun t1 =>
 ((G 146 [t1]).bind (fin false)).bind fun t2 =>
 some ((t2, [])) :=
 (G_eq rfl Tryz.func123 rfl rfl).trans (by kernel_rfl)
theorem g125 (a0 : A) : G 125 [a0] =
 (pCells 2 a0).bind fun t0 =>
 (C148_0 (cGet t0 0) (cGet t0 1) []).bind fun t1 =>
 (hR 1 t1 0).bind fun t2 =>
 (C149_0 t2).bind fun t3 =>
 (hR 1 t3 0).bind fun t4 =>
 some ((A.sl 1 t4, [])) :=
 (G_eq rfl Tryz.func125 rfl rfl).trans (by kernel_rfl)
theorem g126 (a0 a1 : A) : G 126 [a0, a1] =
 (pCells 2 a0).bind fun t0 =>
 (pBin .eql false (cGet t0 0) a1).bind fun t1 =>
 (pBool t1).bind fun t2 =>
 brn t2 (
 (pLenL (cGet t0 1)).bind fun t3 =>
 L126_0 a1 (vi 1) (cGet t0 1) t3 (vi 0)) (
 (pLenL (cGet t0 1)).bind fun t4 =>
 L126_0 a1 (vi 0) (cGet t0 1) t4 (vi 0)) :=
 (G_eq rfl Tryz.func126 rfl rfl).trans (by kernel_rfl)
theorem l126_0 (x0 x1 x2 x3 x4 : A) : L126_0 x0 x1 x2 x3 x4 =
 (pBin .lss false x4 x3).bind fun t5 =>
 (pBool t5).bind fun t6 =>
 brn t6 (
 (pIndexAddr 2 x2 x4).bind fun t7 =>
 (pLoadN 2 t7).bind fun t8 =>
 (pCells 2 t8).bind fun t9 =>
 ((G 126 [A.agg [cGet t9 0, cGet t9 1], x0]).bind (fin false)).bind fun t10 =>
 (pBin .add false x1 t10).bind fun t11 =>
 (pBin .add false x4 (vi 1)).bind fun t12 =>
 L126_0 x0 t11 x2 x3 t12) (
 some ((x1, []))) :=
 (H_eq Tryz.func126 rfl).trans (by kernel_rfl)
theorem g127 (a0 a1 : A) : G 127 [a0, a1] =
 (pCells 3 a0).bind fun t0 =>
 (pCells 2 a1).bind fun t1 =>
 ((G 123 [A.agg [cGet t1 0, cGet t1 1]]).bind (fin false)).bind fun t2 =>
 (pBool t2).bind fun t3 =>
 brn t3 (
 some ((cGet t0 2, []))) (
 ((G 122 [cGet t0 0, cGet t1 0]).bind (fin false)).bind fun t4 =>
 (pIndexAddr 1 (cGet t0 1) t4).bind fun t5 =>
 (pLoadP t5).bind fun t6 =>
 (pLenL (cGet t1 1)).bind fun t7 =>
 L127_0 t6 (cGet t1 1) t7 (vi 0) (cGet t0 0) (cGet t0 1) (cGet t0 2)) :=
 (G_eq rfl Tryz.func127 rfl rfl).trans (by kernel_rfl)
theorem l127_0 (x0 x1 x2 x3 x4 x5 x6 : A) : L127_0 x0 x1 x2 x3 x4 x5 x6 =
 (pBin .lss false x3 x2).bind fun t8 =>
 (pBool t8).bind fun t9 =>
 brn t9 (
 (pIndexAddr 2 x1 x3).bind fun t10 =>
 (pLoadN 2 t10).bind fun t11 =>
 (pCells 2 t11).bind fun t12 =>
 ((G 127 [A.agg [x4, x5, x6], A.agg [cGet t12 0, cGet t12 1]]).bind (fin false)).bind fun t13 =>
 (pBin .add false x0 t13).bind fun t14 =>
 (pBin .add false x3 (vi 1)).bind fun t15 =>
 L127_0 t14 x1 x2 t15 x4 x5 x6) (
 some ((x0, []))) :=
 (H_eq Tryz.func127 rfl).trans (by kernel_rfl)
theorem g128 (a0 a1 a2 : A) : G 128 [a0, a1, a2] =
 (pCells 3 a0).bind fun t0 =>
 (pCells 2 a1).bind fun t1 =>
 (pCells 2 a2).bind fun t2 =>
 ((G 122 [cGet t0 0, cGet t1 0]).bind (fin false)).bind fun t3 =>
 ((G 122 [cGet t0 0, cGet t2 0]).bind (fin false)).bind fun t4 =>
 (pBin .lss false t3 t4).bind fun t5 =>
 (pG t5 false (some t3)).bind fun t6 =>
 (pG t5 false (some t4)).bind fun t7 =>
 (pG t5 false (pBin .eql false t6 t7)).bind fun t8 =>
 (pG t5 false (some t8)).bind fun t9 =>
 (pWant t9 true).bind fun t10 =>
 (pG t9 true (some (cGet t1 1))).bind fun t11 =>
 (pG t9 true (pLenL t11)).bind fun t12 =>
 (pWant t9 true).bind fun t13 =>
 (pG t9 true (some (cGet t2 1))).bind fun t14 =>
 (pG t9 true (pLenL t14)).bind fun t15 =>
 (pG t9 true (pBin .lss false t12 t15)).bind fun t16 =>
 (pG t5 false (pPick t9 t16 (vb false))).bind fun t17 =>
 (pPick t5 (vb true) t17).bind fun t18 =>
 some ((t18, [])) :=
 (G_eq rfl Tryz.func128 rfl rfl).trans (by kernel_rfl)
theorem g129 (a0 a1 : A) : G 129 [a0, a1] =
 (pCells 2 a0).bind fun t0 =>
 (pCells 2 a1).bind fun t1 =>
 (pBin .neq false (cGet t0 0) (cGet t1 0)).bind fun t2 =>
 (pWant t2 false).bind fun t3 =>
 (pG t2 false (some (cGet t0 1))).bind fun t4 =>
 (pG t2 false (pLenL t4)).bind fun t5 =>
 (pWant t2 false).bind fun t6 =>
 (pG t2 false (some (cGet t1 1))).bind fun t7 =>
 (pG t2 false (pLenL t7)).bind fun t8 =>
 (pG t2 false (pBin .neq false t5 t8)).bind fun t9 =>
 (pPick t2 (vb true) t9).bind fun t10 =>
 (pBool t10).bind fun t11 =>
 brn t11 (
 some ((A.tup [A.agg [sv [], A.sl 2 []], A.agg [sv [], A.sl 2 []], vb false], []))) (
 (pLenL (cGet t0 1)).bind fun t12 =>
 L129_0 (cGet t0 1) t12 (vi 0) (cGet t1 0) (cGet t1 1) (sv []) (sv []) [] []) :=
 (G_eq rfl Tryz.func129 rfl rfl).trans (by kernel_rfl)
theorem l129_0 (x0 x1 x2 x3 x4 x5 x6 : A) (r0 r1 : List (List A)) : L129_0 x0 x1 x2 x3 x4 x5 x6 r0 r1 =
 (pBin .lss false x2 x1).bind fun t13 =>
 (pBool t13).bind fun t14 =>
 brn t14 (
 (pIndexAddr 2 x0 x2).bind fun t15 =>
 (pLoadN 2 t15).bind fun t16 =>
 (pCells 2 t16).bind fun t17 =>
 (pIndexAddr 2 x4 x2).bind fun t18 =>
 (pLoadN 2 t18).bind fun t19 =>
 ((G 58 [A.agg [cGet t17 0, cGet t17 1], t19]).bind (fin false)).bind fun t20 =>
 (pUn .not t20).bind fun t21 =>
 (pBool t21).bind fun t22 =>
 brn t22 (
 (pIndexAddr 2 x4 x2).bind fun t23 =>
 (pLoadN 2 t23).bind fun t24 =>
 brn (okA (cGet t17 0)) (
 brn (okA (cGet t17 1)) (
 (pCells 2 t24).bind fun t25 =>
 some ((A.tup [A.agg [cGet t17 0, cGet t17 1], A.agg [cGet t25 0, cGet t25 1], vb true], []))) (
 none)) (
 none)) (
 (pBin .add false x2 (vi 1)).bind fun t26 =>
 L129_0 x0 x1 t26 x3 x4 x5 x6 r0 r1)) (
 some ((A.tup [A.agg [sv [], A.sl 2 []], A.agg [sv [], A.sl 2 []], vb false], []))) :=
 (H_eq Tryz.func129 rfl).trans (by kernel_rfl)
theorem g130 (a0 a1 : A) : G 130 [a0, a1] =
 (pCells 2 a0).bind fun t0 =>
 L130_0 a1 (vi 1) (vi 0) (cGet t0 0) (cGet t0 1) :=
 (G_eq rfl Tryz.func130 rfl rfl).trans (by kernel_rfl)
theorem l130_0 (x0 x1 x2 x3 x4 : A) : L130_0 x0 x1 x2 x3 x4 =
 (pLenL x4).bind fun t1 =>
 (pBin .lss false x2 t1).bind fun t2 =>
 (pG t2 true (some x1)).bind fun t3 =>
 (pG t2 true (some x0)).bind fun t4 =>
 (pG t2 true (pBin .leq false t3 t4)).bind fun t5 =>
 (pPick t2 t5 (vb false)).bind fun t6 =>
 (pBool t6).bind fun t7 =>
 brn t7 (
 (pIndexAddr 2 x4 x2).bind fun t8 =>
 (pLoadN 2 t8).bind fun t9 =>
 (pBin .sub false x0 x1).bind fun t10 =>
 ((G 130 [t9, t10]).bind (fin false)).bind fun t11 =>
 (pBin .add false x1 t11).bind fun t12 =>
 (pBin .add false x2 (vi 1)).bind fun t13 =>
 L130_0 x0 t12 t13 x3 x4) (
 some ((x1, []))) :=
 (H_eq Tryz.func130 rfl).trans (by kernel_rfl)
theorem g131 (a0 : A) : G 131 [a0] =
 (pCells 2 a0).bind fun t0 =>
 L131_0 (vi 0) (vi 0) (cGet t0 0) (cGet t0 1) :=
 (G_eq rfl Tryz.func131 rfl rfl).trans (by kernel_rfl)
theorem l131_0 (x0 x1 x2 x3 : A) : L131_0 x0 x1 x2 x3 =
 (pLenL x3).bind fun t1 =>
 (pBin .lss false x1 t1).bind fun t2 =>
 (pBool t2).bind fun t3 =>
 brn t3 (
 (pIndexAddr 2 x3 x1).bind fun t4 =>
 (pLoadN 2 t4).bind fun t5 =>
 ((G 131 [t5]).bind (fin false)).bind fun t6 =>
 ((G 150 [x0, t6]).bind (fin false)).bind fun t7 =>
 (pBin .add false x1 (vi 1)).bind fun t8 =>
 L131_0 t7 t8 x2 x3) (
 (pBin .add false x0 (vi 1)).bind fun t9 =>
 some ((t9, []))) :=
 (H_eq Tryz.func131 rfl).trans (by kernel_rfl)
theorem g132 (a0 a1 : A) : G 132 [a0, a1] =
 (pCells 2 a0).bind fun t0 =>
 (pCells 2 a1).bind fun t1 =>
 ((G 56 [A.agg [cGet t0 0, cGet t0 1], A.agg [cGet t1 0, cGet t1 1]]).bind (fin false)).bind fun t2 =>
 (pBool t2).bind fun t3 =>
 brn t3 (
 some ((vi 1, []))) (
 ((G 151 [A.sl 1 [], A.agg [cGet t0 0, cGet t0 1]]).bind (fin false)).bind fun t4 =>
 ((G 151 [t4, A.agg [cGet t1 0, cGet t1 1]]).bind (fin false)).bind fun t5 =>
 brn (okA t5) (
 brn (okA t5) (
 (pLenL t5).bind fun t6 =>
 (pBin .eql false t6 (vi 0)).bind fun t7 =>
 (pWant t7 false).bind fun t8 =>
 (pG t7 false (some t5)).bind fun t9 =>
 (pG t7 false (pLenL t9)).bind fun t10 =>
 (pG t7 false (pBin .gtr false t10 (vi 12))).bind fun t11 =>
 (pPick t7 (vb true) t11).bind fun t12 =>
 (pBool t12).bind fun t13 =>
 brn t13 (
 some ((vi 0, []))) (
 L132_0 (vi 0) (cGet t0 0) (cGet t0 1) (cGet t1 0) (cGet t1 1) t5 (vi 1) [])) (
 none)) (
 none)) :=
 (G_eq rfl Tryz.func132 rfl rfl).trans (by kernel_rfl)
theorem l132_0 (x0 x1 x2 x3 x4 x5 x6 : A) (r0 : List (List A)) : L132_0 x0 x1 x2 x3 x4 x5 x6 r0 =
 (pLenL x5).bind fun t14 =>
 (pBin .lss false x0 t14).bind fun t15 =>
 (pBool t15).bind fun t16 =>
 brn t16 (
 brn (pFit ((rLenN r0) + (rLenN [[vi 1]])) 8) (
 (pBin .add false x0 (vi 1)).bind fun t17 =>
 L132_0 t17 x1 x2 x3 x4 x5 x6 (rApp r0 [[vi 1]])) (
 none)) (
 ((G 152 [A.agg [x5, A.sl 1 r0, x6], A.agg [x1, x2], A.agg [x3, x4]]).bind (fin true)).bind fun t18 =>
 (pTup t18 0).bind fun t19 =>
 (pTup t18 1).bind fun t20 =>
 (pUn .not t20).bind fun t21 =>
 (pBool t21).bind fun t22 =>
 brn t22 (
 some ((vi 0, []))) (
 some ((t19, [])))) :=
 (H_eq Tryz.func132 rfl).trans (by kernel_rfl)
theorem g133 (a0 a1 : A) : G 133 [a0, a1] =
 (pCells 2 a0).bind fun t0 =>
 L133_0 a1 (vi 0) (cGet t0 0) (cGet t0 1) [] :=
 (G_eq rfl Tryz.func133 rfl rfl).trans (by kernel_rfl)
theorem l133_0 (x0 x1 x2 x3 : A) (r0 : List (List A)) : L133_0 x0 x1 x2 x3 r0 =
 (pLenL x3).bind fun t1 =>
 (pBin .lss false x1 t1).bind fun t2 =>
 (pBool t2).bind fun t3 =>
 brn t3 (
 (pIndexAddr 2 x3 x1).bind fun t4 =>
 (pLoadN 2 t4).bind fun t5 =>
 (C153_0 x0).bind fun t6 =>
 (hR 1 t6 0).bind fun t7 =>
 brn (okA x1) (
 brn (pFit ((rLenN t7) + (rLenN [[x1]])) 8) (
 (G 133 [t5, A.sl 1 (rApp t7 [[x1]])]).bind fun t8 =>
 (fin false t8).bind fun t9 =>
 (pRows 1 t9).bind fun t10 =>
 brn (pFit ((rLenN r0) + (rLenN t10)) 24) (
 (pBin .add false x1 (vi 1)).bind fun t11 =>
 L133_0 x0 t11 x2 x3 (rApp r0 t10)) (
 none)) (
 none)) (
 none)) (
 (C153_0 x0).bind fun t12 =>
 (hR 1 t12 0).bind fun t13 =>
 brn (pFit ((rLenN r0) + (rLenN [[A.sl 1 t13]])) 24) (
 some ((A.sl 1 (rApp r0 [[A.sl 1 t13]]), []))) (
 none)) :=
 (H_eq Tryz.func133 rfl).trans (by kernel_rfl)
theorem g134 (a0 a1 : A) : G 134 [a0, a1] =
 (pCells 2 a0).bind fun t0 =>
 L134_0 a1 (vi 0) (cGet t0 0) (cGet t0 1) (sv []) [] :=
 (G_eq rfl Tryz.func134 rfl rfl).trans (by kernel_rfl)
theorem l134_0 (x0 x1 x2 x3 x4 : A) (r0 : List (List A)) : L134_0 x0 x1 x2 x3 x4 r0 =
 (pLenL x0).bind fun t1 =>
 (pBin .lss false x1 t1).bind fun t2 =>
 (pBool t2).bind fun t3 =>
 brn t3 (
 (pIndexAddr 1 x0 x1).bind fun t4 =>
 (pLoadP t4).bind fun t5 =>
 (pLenL x3).bind fun t6 =>
 (pBin .sub false t6 (vi 1)).bind fun t7 =>
 ((G 76 [t5, vi 0, t7]).bind (fin false)).bind fun t8 =>
 (pUn .not t8).bind fun t9 =>
 (pBool t9).bind fun t10 =>
 brn t10 (
 some ((A.tup [A.agg [sv [], A.sl 2 []], vb false], []))) (
 (pIndexAddr 1 x0 x1).bind fun t11 =>
 (pLoadP t11).bind fun t12 =>
 (pIndexAddr 2 x3 t12).bind fun t13 =>
 (pLoadN 2 t13).bind fun t14 =>
 (pCells 2 t14).bind fun t15 =>
 (pBin .add false x1 (vi 1)).bind fun t16 =>
 L134_0 x0 t16 (cGet t15 0) (cGet t15 1) x4 r0)) (
 (G 40 [A.agg [x2, x3]]).bind fun t17 =>
 (fin false t17).bind fun t18 =>
 (pCells 2 t18).bind fun t19 =>
 some ((A.tup [A.agg [cGet t19 0, cGet t19 1], vb true], []))) :=
 (H_eq Tryz.func134 rfl).trans (by kernel_rfl)
theorem c135_0 (x0 x1 x2 : A) (r0 : List (List A)) : C135_0 x0 x1 x2 r0 =
 (pCells 2 x0).bind fun t0 =>
 brn (okA x1) (
 brn (okA x2) (
 ((G 82 [cGet t0 0]).bind (fin false)).bind fun t1 =>
 (pBool t1).bind fun t2 =>
 brn t2 (
 L135c0_0 (vi 0) (cGet t0 0) (cGet t0 1) x1 x2 r0) (
 (pBin .neq false (cGet t0 0) x1).bind fun t3 =>
 (pWant t3 false).bind fun t4 =>
 (pG t3 false (some (cGet t0 1))).bind fun t5 =>
 (pG t3 false (pLenL t5)).bind fun t6 =>
 (pWant t3 false).bind fun t7 =>
 (pG t3 false (some x2)).bind fun t8 =>
 (pG t3 false (pLenL t8)).bind fun t9 =>
 (pG t3 false (pBin .neq false t6 t9)).bind fun t10 =>
 (pPick t3 (vb true) t10).bind fun t11 =>
 (pBool t11).bind fun t12 =>
 brn t12 (
 some ((A.top, [vb false, A.sl 259 r0]))) (
 L135c0_1 (vi 0) (cGet t0 0) (cGet t0 1) x1 x2 r0))) (
 none)) (
 none) :=
 (V_eq rfl Tryz.func135 rfl rfl).trans (by kernel_rfl)
theorem l135c0_0 (x0 x1 x2 x3 x4 : A) (r0 : List (List A)) : L135c0_0 x0 x1 x2 x3 x4 r0 =
 (pBin .lss false x0 (rLen r0)).bind fun t13 =>
 (pBool t13).bind fun t14 =>
 brn t14 (
 (pIx (rLenN r0) x0).bind fun t15 =>
 (pRowP r0 t15 0).bind fun t16 =>
 (pBin .eql false t16 x1).bind fun t17 =>
 (pBool t17).bind fun t18 =>
 brn t18 (
 (pIx (rLenN r0) x0).bind fun t19 =>
 (pRowN r0 t19 1 2).bind fun t20 =>
 ((G 56 [t20, A.agg [x3, x4]]).bind (fin false)).bind fun t21 =>
 some ((A.top, [t21, A.sl 259 r0]))) (
 (pBin .add false x0 (vi 1)).bind fun t22 =>
 L135c0_0 t22 x1 x2 x3 x4 r0)) (
 brn (okA x1) (
 brn (okA x3) (
 brn (okA x4) (
 brn (okA x1) (
 brn (okA x3) (
 brn (okA x4) (
 brn (pFit ((rLenN r0) + (rLenN [[x1, x3, x4]])) 56) (
 some ((A.top, [vb true, A.sl 259 (rApp r0 [[x1, x3, x4]])]))) (
 none)) (
 none)) (
 none)) (
 none)) (
 none)) (
 none)) (
 none)) :=
 (H_eq Tryz.func135 rfl).trans (by kernel_rfl)
theorem l135c0_1 (x0 x1 x2 x3 x4 : A) (r0 : List (List A)) : L135c0_1 x0 x1 x2 x3 x4 r0 =
 (pLenL x2).bind fun t23 =>
 (pBin .lss false x0 t23).bind fun t24 =>
 (pBool t24).bind fun t25 =>
 brn t25 (
 (pIndexAddr 2 x2 x0).bind fun t26 =>
 (pLoadN 2 t26).bind fun t27 =>
 (pIndexAddr 2 x4 x0).bind fun t28 =>
 (pLoadN 2 t28).bind fun t29 =>
 (C135_1 t27 t29 r0).bind fun t30 =>
 (hD t30 0).bind fun t31 =>
 (hR 259 t30 1).bind fun t32 =>
 (pBool t31).bind fun t33 =>
 brn t33 (
 (pUn .not t31).bind fun t34 =>
 (pBool t34).bind fun t35 =>
 brn t35 (
 ((pNo (vb false)).bind fun t36 =>
 some [[]]).bind fun t37 =>
 some ((A.top, (vb false :: (slL [259] t37))))) (
 (pBin .add false x0 (vi 1)).bind fun t38 =>
 L135c0_2 t38 x1 x2 x3 x4 t32)) (
 (pUn .not t31).bind fun t39 =>
 (pBool t39).bind fun t40 =>
 brn t40 (
 ((pNo (vb false)).bind fun t41 =>
 some [[]]).bind fun t42 =>
 some ((A.top, (vb false :: (slL [259] t42))))) (
 (pBin .add false x0 (vi 1)).bind fun t43 =>
 L135c0_3 t43 x1 x2 x3 x4))) (
 some ((A.top, [vb true, A.sl 259 r0]))) :=
 (H_eq Tryz.func135 rfl).trans (by kernel_rfl)
theorem l135c0_2 (x0 x1 x2 x3 x4 : A) (r0 : List (List A)) : L135c0_2 x0 x1 x2 x3 x4 r0 =
 (pLenL x2).bind fun t44 =>
 (pBin .lss false x0 t44).bind fun t45 =>
 (pBool t45).bind fun t46 =>
 brn t46 (
 (pIndexAddr 2 x2 x0).bind fun t47 =>
 (pLoadN 2 t47).bind fun t48 =>
 (pIndexAddr 2 x4 x0).bind fun t49 =>
 (pLoadN 2 t49).bind fun t50 =>
 (C135_1 t48 t50 r0).bind fun t51 =>
 (hD t51 0).bind fun t52 =>
 (hR 259 t51 1).bind fun t53 =>
 (pBool t52).bind fun t54 =>
 brn t54 (
 (pUn .not t52).bind fun t55 =>
 (pBool t55).bind fun t56 =>
 brn t56 (
 ((pNo (vb false)).bind fun t57 =>
 some [[]]).bind fun t58 =>
 some ((A.top, (vb false :: (slL [259] t58))))) (
 (pBin .add false x0 (vi 1)).bind fun t59 =>
 L135c0_2 t59 x1 x2 x3 x4 t53)) (
 (pUn .not t52).bind fun t60 =>
 (pBool t60).bind fun t61 =>
 brn t61 (
 ((pNo (vb false)).bind fun t62 =>
 some [[]]).bind fun t63 =>
 some ((A.top, (vb false :: (slL [259] t63))))) (
 (pBin .add false x0 (vi 1)).bind fun t64 =>
 L135c0_3 t64 x1 x2 x3 x4))) (
 some ((A.top, [vb true, A.sl 259 r0]))) :=
 (H_eq Tryz.func135 rfl).trans (by kernel_rfl)
theorem c135_1 (x0 x1 : A) (r0 : List (List A)) : C135_1 x0 x1 r0 =
 (pCells 2 x0).bind fun t0 =>
 (pCells 2 x1).bind fun t1 =>
 ((G 82 [cGet t0 0]).bind (fin false)).bind fun t2 =>
 (pBool t2).bind fun t3 =>
 brn t3 (
 L135c1_0 (vi 0) (cGet t0 0) (cGet t0 1) (cGet t1 0) (cGet t1 1) r0) (
 (pBin .neq false (cGet t0 0) (cGet t1 0)).bind fun t4 =>
 (pWant t4 false).bind fun t5 =>
 (pG t4 false (some (cGet t0 1))).bind fun t6 =>
 (pG t4 false (pLenL t6)).bind fun t7 =>
 (pWant t4 false).bind fun t8 =>
 (pG t4 false (some (cGet t1 1))).bind fun t9 =>
 (pG t4 false (pLenL t9)).bind fun t10 =>
 (pG t4 false (pBin .neq false t7 t10)).bind fun t11 =>
 (pPick t4 (vb true) t11).bind fun t12 =>
 (pBool t12).bind fun t13 =>
 brn t13 (
 some ((A.top, [vb false, A.sl 259 r0]))) (
 L135c1_1 (vi 0) (cGet t0 0) (cGet t0 1) (cGet t1 0) (cGet t1 1) r0)) :=
 (V_eq rfl Tryz.func135 rfl rfl).trans (by kernel_rfl)
theorem l135c1_0 (x0 x1 x2 x3 x4 : A) (r0 : List (List A)) : L135c1_0 x0 x1 x2 x3 x4 r0 =
 (pBin .lss false x0 (rLen r0)).bind fun t14 =>
 (pBool t14).bind fun t15 =>
 brn t15 (
 (pIx (rLenN r0) x0).bind fun t16 =>
 (pRowP r0 t16 0).bind fun t17 =>
 (pBin .eql false t17 x1).bind fun t18 =>
 (pBool t18).bind fun t19 =>
 brn t19 (
 (pIx (rLenN r0) x0).bind fun t20 =>
 (pRowN r0 t20 1 2).bind fun t21 =>
 ((G 56 [t21, A.agg [x3, x4]]).bind (fin false)).bind fun t22 =>
 some ((A.top, [t22, A.sl 259 r0]))) (
 (pBin .add false x0 (vi 1)).bind fun t23 =>
 L135c1_0 t23 x1 x2 x3 x4 r0)) (
 brn (okA x1) (
 brn (okA x3) (
 brn (okA x4) (
 brn (okA x1) (
 brn (okA x3) (
 brn (okA x4) (
 brn (pFit ((rLenN r0) + (rLenN [[x1, x3, x4]])) 56) (
 some ((A.top, [vb true, A.sl 259 (rApp r0 [[x1, x3, x4]])]))) (
 none)) (
 none)) (
 none)) (
 none)) (
 none)) (
 none)) (
 none)) :=
 (H_eq Tryz.func135 rfl).trans (by kernel_rfl)
theorem l135c1_1 (x0 x1 x2 x3 x4 : A) (r0 : List (List A)) : L135c1_1 x0 x1 x2 x3 x4 r0 =
 (pLenL x2).bind fun t24 =>
 (pBin .lss false x0 t24).bind fun t25 =>
 (pBool t25).bind fun t26 =>
 brn t26 (
 (pIndexAddr 2 x2 x0).bind fun t27 =>
 (pLoadN 2 t27).bind fun t28 =>
 (pIndexAddr 2 x4 x0).bind fun t29 =>
 (pLoadN 2 t29).bind fun t30 =>
 (C135_1 t28 t30 r0).bind fun t31 =>
 (hD t31 0).bind fun t32 =>
 (hR 259 t31 1).bind fun t33 =>
 (pBool t32).bind fun t34 =>
 brn t34 (
 (pUn .not t32).bind fun t35 =>
 (pBool t35).bind fun t36 =>
 brn t36 (
 ((pNo (vb false)).bind fun t37 =>
 some [[]]).bind fun t38 =>
 some ((A.top, (vb false :: (slL [259] t38))))) (
 (pBin .add false x0 (vi 1)).bind fun t39 =>
 L135c1_2 t39 x1 x2 x3 x4 t33)) (
 (pUn .not t32).bind fun t40 =>
 (pBool t40).bind fun t41 =>
 brn t41 (
 ((pNo (vb false)).bind fun t42 =>
 some [[]]).bind fun t43 =>
 some ((A.top, (vb false :: (slL [259] t43))))) (
 (pBin .add false x0 (vi 1)).bind fun t44 =>
 L135c1_3 t44 x1 x2 x3 x4))) (
 some ((A.top, [vb true, A.sl 259 r0]))) :=
 (H_eq Tryz.func135 rfl).trans (by kernel_rfl)
theorem l135c1_2 (x0 x1 x2 x3 x4 : A) (r0 : List (List A)) : L135c1_2 x0 x1 x2 x3 x4 r0 =
 (pLenL x2).bind fun t45 =>
 (pBin .lss false x0 t45).bind fun t46 =>
 (pBool t46).bind fun t47 =>
 brn t47 (
 (pIndexAddr 2 x2 x0).bind fun t48 =>
 (pLoadN 2 t48).bind fun t49 =>
 (pIndexAddr 2 x4 x0).bind fun t50 =>
 (pLoadN 2 t50).bind fun t51 =>
 (C135_1 t49 t51 r0).bind fun t52 =>
 (hD t52 0).bind fun t53 =>
 (hR 259 t52 1).bind fun t54 =>
 (pBool t53).bind fun t55 =>
 brn t55 (
 (pUn .not t53).bind fun t56 =>
 (pBool t56).bind fun t57 =>
 brn t57 (
 ((pNo (vb false)).bind fun t58 =>
 some [[]]).bind fun t59 =>
 some ((A.top, (vb false :: (slL [259] t59))))) (
 (pBin .add false x0 (vi 1)).bind fun t60 =>
 L135c1_2 t60 x1 x2 x3 x4 t54)) (
 (pUn .not t53).bind fun t61 =>
 (pBool t61).bind fun t62 =>
 brn t62 (
 ((pNo (vb false)).bind fun t63 =>
 some [[]]).bind fun t64 =>
 some ((A.top, (vb false :: (slL [259] t64))))) (
 (pBin .add false x0 (vi 1)).bind fun t65 =>
 L135c1_3 t65 x1 x2 x3 x4))) (
 some ((A.top, [vb true, A.sl 259 r0]))) :=
 (H_eq Tryz.func135 rfl).trans (by kernel_rfl)
theorem g136 (a0 a1 a2 : A) : G 136 [a0, a1, a2] =
 (pCells 2 a0).bind fun t0 =>
 (pCells 2 a2).bind fun t1 =>
 (pLenL a1).bind fun t2 =>
 (pBin .eql false t2 (vi 0)).bind fun t3 =>
 (pBool t3).bind fun t4 =>
 brn t4 (
 (C40_0 (cGet t1 0) (cGet t1 1)).bind fun t5 =>
 (hD t5 0).bind fun t6 =>
 (hR 2 t5 1).bind fun t7 =>
 brn (okA t6) (
 some ((A.agg [t6, A.sl 2 t7], []))) (
 none)) (
 (C40_0 (cGet t0 0) (cGet t0 1)).bind fun t8 =>
 (hD t8 0).bind fun t9 =>
 (hR 2 t8 1).bind fun t10 =>
 brn (okA t9) (
 (pIndexAddr 1 a1 (vi 0)).bind fun t11 =>
 (pLoadP t11).bind fun t12 =>
 (pIndexAddr 1 a1 (vi 0)).bind fun t13 =>
 (pLoadP t13).bind fun t14 =>
 (pIndexAddr 2 (cGet t0 1) t14).bind fun t15 =>
 (pLoadN 2 t15).bind fun t16 =>
 (pSlice 1 a1 (some (vi 1)) none).bind fun t17 =>
 ((G 136 [t16, t17, A.agg [cGet t1 0, cGet t1 1]]).bind (fin false)).bind fun t18 =>
 (pIx (rLenN t10) t12).bind fun t19 =>
 (pCells 2 t18).bind fun t20 =>
 (rGet t10 t19).bind fun t21 =>
 brn (okA t9) (
 some ((A.agg [t9, A.sl 2 (rSet t10 t19 (cOver t21 0 [cGet t20 0, cGet t20 1]))], []))) (
 none)) (
 none)) :=
 (G_eq rfl Tryz.func136 rfl rfl).trans (by kernel_rfl)
theorem g137 (a0 : A) : G 137 [a0] =
 L137_0 a0 (vi 0) [] [] :=
 (G_eq rfl Tryz.func137 rfl rfl).trans (by kernel_rfl)
theorem l137_0 (x0 x1 : A) (r0 r1 : List (List A)) : L137_0 x0 x1 r0 r1 =
 (pLenL x0).bind fun t0 =>
 (pBin .lss false x1 t0).bind fun t1 =>
 (pBool t1).bind fun t2 =>
 brn t2 (
 (pIndexAddr 3 x0 x1).bind fun t3 =>
 (pAdd t3 0).bind fun t4 =>
 (pLoadP t4).bind fun t5 =>
 (pIndexAddr 3 x0 x1).bind fun t6 =>
 (pAdd t6 1).bind fun t7 =>
 (pLoadN 2 t7).bind fun t8 =>
 (C108_0 t5 t8 r1).bind fun t9 =>
 (hR 3 t9 0).bind fun t10 =>
 (pBin .add false x1 (vi 1)).bind fun t11 =>
 L137_0 x0 t11 r0 t10) (
 some ((A.agg [A.sl 3 r1], []))) :=
 (H_eq Tryz.func137 rfl).trans (by kernel_rfl)
theorem g138 (a0 a1 : A) : G 138 [a0, a1] =
 (pLenL a0).bind fun t0 =>
 L138_0 a0 a1 t0 (vi 0) :=
 (G_eq rfl Tryz.func138 rfl rfl).trans (by kernel_rfl)
theorem l138_0 (x0 x1 x2 x3 : A) : L138_0 x0 x1 x2 x3 =
 (pBin .lss false x3 x2).bind fun t1 =>
 (pBool t1).bind fun t2 =>
 brn t2 (
 (pIndexAddr 2 x0 x3).bind fun t3 =>
 (pLoadN 2 t3).bind fun t4 =>
 (DX.run K (MM K) (.callc x1 [t4] false)).bind fun t5 =>
 (pBool t5).bind fun t6 =>
 brn t6 (
 some ((x3, []))) (
 (pBin .add false x3 (vi 1)).bind fun t7 =>
 L138_0 x0 x1 x2 t7)) (
 some ((vi (-1), []))) :=
 (H_eq Tryz.func138 rfl).trans (by kernel_rfl)
theorem g139 (a0 a1 : A) : G 139 [a0, a1] =
 (pCells 2 a0).bind fun t0 =>
 (pCells 2 a1).bind fun t1 =>
 ((G 58 [A.agg [cGet t0 0, cGet t0 1], A.agg [cGet t1 0, cGet t1 1]]).bind (fin false)).bind fun t2 =>
 (pBool t2).bind fun t3 =>
 brn t3 (
 some ((vi 1, []))) (
 (C154_0 (cGet t0 0) (cGet t0 1) []).bind fun t4 =>
 (hR 1 t4 0).bind fun t5 =>
 (C154_0 (cGet t1 0) (cGet t1 1) t5).bind fun t6 =>
 (hR 1 t6 0).bind fun t7 =>
 (pBin .gtr false (rLen t7) (vi 12)).bind fun t8 =>
 (pBool t8).bind fun t9 =>
 brn t9 (
 some ((vi 0, []))) (
 (C149_0 t7).bind fun t10 =>
 (hR 1 t10 0).bind fun t11 =>
 (C155_0 (rLen t11) [[vi 1]]).bind fun t12 =>
 (hR 1 t12 0).bind fun t13 =>
 ((G 47 [A.agg [A.sl 1 t11, A.sl 1 t13, vi 1], A.agg [cGet t0 0, cGet t0 1], A.agg [cGet t1 0, cGet t1 1]]).bind (fin true)).bind fun t14 =>
 some ((t14, [])))) :=
 (G_eq rfl Tryz.func139 rfl rfl).trans (by kernel_rfl)
theorem c140_0 (x0 x1 x2 : A) (r0 : List (List A)) : C140_0 x0 x1 x2 r0 =
 (pCells 2 x0).bind fun t0 =>
 brn (okA x1) (
 brn (okA x2) (
 (pLenL (cGet t0 1)).bind fun t1 =>
 (pBin .eql false t1 (vi 0)).bind fun t2 =>
 (pWant t2 true).bind fun t3 =>
 (pG t2 true ((G 123 [A.agg [cGet t0 0, cGet t0 1]]).bind (fin false))).bind fun t4 =>
 (pPick t2 t4 (vb false)).bind fun t5 =>
 (pBool t5).bind fun t6 =>
 brn t6 (
 (pLook none true false [sv [], A.sl 2 []] (A.mp r0) (cGet t0 0)).bind fun t7 =>
 (pTup t7 0).bind fun t8 =>
 (pTup t7 1).bind fun t9 =>
 (pCells 2 t8).bind fun t10 =>
 (pPut none r0 (cGet t0 0) (A.agg [x1, x2])).bind fun t11 =>
 (pUn .not t9).bind fun t12 =>
 (pWant t12 false).bind fun t13 =>
 (pWant t12 false).bind fun t14 =>
 (pG t12 false ((G 58 [A.agg [cGet t10 0, cGet t10 1], A.agg [x1, x2]]).bind (fin false))).bind fun t15 =>
 (pPick t12 (vb true) t15).bind fun t16 =>
 some ((A.top, [t16, A.sl 128 t11]))) (
 (pBin .neq false (cGet t0 0) x1).bind fun t17 =>
 (pWant t17 false).bind fun t18 =>
 (pG t17 false (some (cGet t0 1))).bind fun t19 =>
 (pG t17 false (pLenL t19)).bind fun t20 =>
 (pWant t17 false).bind fun t21 =>
 (pG t17 false (some x2)).bind fun t22 =>
 (pG t17 false (pLenL t22)).bind fun t23 =>
 (pG t17 false (pBin .neq false t20 t23)).bind fun t24 =>
 (pPick t17 (vb true) t24).bind fun t25 =>
 (pBool t25).bind fun t26 =>
 brn t26 (
 some ((A.top, [vb false, A.sl 128 r0]))) (
 (pLenL (cGet t0 1)).bind fun t27 =>
 L140c0_0 (cGet t0 1) t27 (vi 0) x1 x2 r0))) (
 none)) (
 none) :=
 (V_eq rfl Tryz.func140 rfl rfl).trans (by kernel_rfl)
theorem l140c0_0 (x0 x1 x2 x3 x4 : A) (r0 : List (List A)) : L140c0_0 x0 x1 x2 x3 x4 r0 =
 (pBin .lss false x2 x1).bind fun t28 =>
 (pBool t28).bind fun t29 =>
 brn t29 (
 (pIndexAddr 2 x0 x2).bind fun t30 =>
 (pLoadN 2 t30).bind fun t31 =>
 (pCells 2 t31).bind fun t32 =>
 (pIndexAddr 2 x4 x2).bind fun t33 =>
 (pLoadN 2 t33).bind fun t34 =>
 (C140_1 (cGet t32 0) (cGet t32 1) t34 r0).bind fun t35 =>
 (hD t35 0).bind fun t36 =>
 (hR 128 t35 1).bind fun t37 =>
 (pUn .not t36).bind fun t38 =>
 (pBool t38).bind fun t39 =>
 brn t39 (
 some ((A.top, [vb false, A.sl 128 t37]))) (
 (pBin .add false x2 (vi 1)).bind fun t40 =>
 L140c0_0 x0 x1 t40 x3 x4 t37)) (
 some ((A.top, [vb true, A.sl 128 r0]))) :=
 (H_eq Tryz.func140 rfl).trans (by kernel_rfl)
theorem c140_1 (x0 x1 x2 : A) (r0 : List (List A)) : C140_1 x0 x1 x2 r0 =
 brn (okA x0) (
 brn (okA x1) (
 (pCells 2 x2).bind fun t0 =>
 (pLenL x1).bind fun t1 =>
 (pBin .eql false t1 (vi 0)).bind fun t2 =>
 (pWant t2 true).bind fun t3 =>
 (pG t2 true ((G 123 [A.agg [x0, x1]]).bind (fin false))).bind fun t4 =>
 (pPick t2 t4 (vb false)).bind fun t5 =>
 (pBool t5).bind fun t6 =>
 brn t6 (
 (pLook none true false [sv [], A.sl 2 []] (A.mp r0) x0).bind fun t7 =>
 (pTup t7 0).bind fun t8 =>
 (pTup t7 1).bind fun t9 =>
 (pCells 2 t8).bind fun t10 =>
 (pPut none r0 x0 (A.agg [cGet t0 0, cGet t0 1])).bind fun t11 =>
 (pUn .not t9).bind fun t12 =>
 (pWant t12 false).bind fun t13 =>
 (pWant t12 false).bind fun t14 =>
 (pG t12 false ((G 58 [A.agg [cGet t10 0, cGet t10 1], A.agg [cGet t0 0, cGet t0 1]]).bind (fin false))).bind fun t15 =>
 (pPick t12 (vb true) t15).bind fun t16 =>
 some ((A.top, [t16, A.sl 128 t11]))) (
 (pBin .neq false x0 (cGet t0 0)).bind fun t17 =>
 (pWant t17 false).bind fun t18 =>
 (pG t17 false (some x1)).bind fun t19 =>
 (pG t17 false (pLenL t19)).bind fun t20 =>
 (pWant t17 false).bind fun t21 =>
 (pG t17 false (some (cGet t0 1))).bind fun t22 =>
 (pG t17 false (pLenL t22)).bind fun t23 =>
 (pG t17 false (pBin .neq false t20 t23)).bind fun t24 =>
 (pPick t17 (vb true) t24).bind fun t25 =>
 (pBool t25).bind fun t26 =>
 brn t26 (
 some ((A.top, [vb false, A.sl 128 r0]))) (
 (pLenL x1).bind fun t27 =>
 L140c1_0 x1 t27 (vi 0) (cGet t0 0) (cGet t0 1) r0))) (
 none)) (
 none) :=
 (V_eq rfl Tryz.func140 rfl rfl).trans (by kernel_rfl)
theorem l140c1_0 (x0 x1 x2 x3 x4 : A) (r0 : List (List A)) : L140c1_0 x0 x1 x2 x3 x4 r0 =
 (pBin .lss false x2 x1).bind fun t28 =>
 (pBool t28).bind fun t29 =>
 brn t29 (
 (pIndexAddr 2 x0 x2).bind fun t30 =>
 (pLoadN 2 t30).bind fun t31 =>
 (pCells 2 t31).bind fun t32 =>
 (pIndexAddr 2 x4 x2).bind fun t33 =>
 (pLoadN 2 t33).bind fun t34 =>
 (C140_1 (cGet t32 0) (cGet t32 1) t34 r0).bind fun t35 =>
 (hD t35 0).bind fun t36 =>
 (hR 128 t35 1).bind fun t37 =>
 (pUn .not t36).bind fun t38 =>
 (pBool t38).bind fun t39 =>
 brn t39 (
 some ((A.top, [vb false, A.sl 128 t37]))) (
 (pBin .add false x2 (vi 1)).bind fun t40 =>
 L140c1_0 x0 x1 t40 x3 x4 t37)) (
 some ((A.top, [vb true, A.sl 128 r0]))) :=
 (H_eq Tryz.func140 rfl).trans (by kernel_rfl)
theorem g141 (a0 a1 : A) : G 141 [a0, a1] =
 (pCells 2 a0).bind fun t0 =>
 (pLook none true false [sv [], A.sl 2 []] a1 (cGet t0 0)).bind fun t1 =>
 (pTup t1 0).bind fun t2 =>
 (pTup t1 1).bind fun t3 =>
 (pCells 2 t2).bind fun t4 =>
 (pWant t3 true).bind fun t5 =>
 (pG t3 true (some (cGet t0 1))).bind fun t6 =>
 (pG t3 true (pLenL t6)).bind fun t7 =>
 (pG t3 true (pBin .eql false t7 (vi 0))).bind fun t8 =>
 (pPick t3 t8 (vb false)).bind fun t9 =>
 (pBool t9).bind fun t10 =>
 brn t10 (
 ((G 46 [A.agg [cGet t4 0, cGet t4 1]]).bind (fin false)).bind fun t11 =>
 (pCells 2 t11).bind fun t12 =>
 some ((A.agg [cGet t12 0, cGet t12 1], []))) (
 brn (okA (cGet t0 0)) (
 brn (okA (cGet t0 0)) (
 (pLenL (cGet t0 1)).bind fun t13 =>
 L141_0 a1 (cGet t0 1) t13 (vi 0) (sv []) (cGet t0 0) [] []) (
 none)) (
 none)) :=
 (G_eq rfl Tryz.func141 rfl rfl).trans (by kernel_rfl)
theorem l141_0 (x0 x1 x2 x3 x4 x5 : A) (r0 r1 : List (List A)) : L141_0 x0 x1 x2 x3 x4 x5 r0 r1 =
 (pBin .lss false x3 x2).bind fun t14 =>
 (pBool t14).bind fun t15 =>
 brn t15 (
 (pIndexAddr 2 x1 x3).bind fun t16 =>
 (pLoadN 2 t16).bind fun t17 =>
 (pCells 2 t17).bind fun t18 =>
 (G 141 [A.agg [cGet t18 0, cGet t18 1], x0]).bind fun t19 =>
 (fin false t19).bind fun t20 =>
 (pCells 2 t20).bind fun t21 =>
 brn (pFit ((rLenN r1) + (rLenN [[cGet t21 0, cGet t21 1]])) 40) (
 (pBin .add false x3 (vi 1)).bind fun t22 =>
 L141_0 x0 x1 x2 t22 x4 x5 r0 (rApp r1 [[cGet t21 0, cGet t21 1]])) (
 none)) (
 brn (okA x5) (
 some ((A.agg [x5, A.sl 2 r1], []))) (
 none)) :=
 (H_eq Tryz.func141 rfl).trans (by kernel_rfl)
theorem c142_0 (x0 x1 x2 : A) : C142_0 x0 x1 x2 =
 (pLenL x0).bind fun t0 =>
 (pBin .lss false x1 t0).bind fun t1 =>
 (pBool t1).bind fun t2 =>
 brn t2 (
 (pIndexAddr 1 x0 x1).bind fun t3 =>
 (pLoadP t3).bind fun t4 =>
 (pConv .i64 t4).bind fun t5 =>
 (pBin .add false x1 (vi 1)).bind fun t6 =>
 brn (okA t6) (
 (pBin .mul false x2 (A.val (.int .u64 6364136223846793005))).bind fun t7 =>
 (pConv .u64 t5).bind fun t8 =>
 (pBin .add false t7 t8).bind fun t9 =>
 (pBin .add false t9 (A.val (.int .u64 892892))).bind fun t10 =>
 brn (okA t10) (
 (pLenL x0).bind fun t11 =>
 (pBin .leq false t6 t11).bind fun t12 =>
 (pBool t12).bind fun t13 =>
 brn t13 (
 some ((A.top, [x0, t6, t10, t5]))) (
 (pBin .shr false t10 (A.val (.int .u64 40))).bind fun t14 =>
 (pBin .and false t14 (A.val (.int .u64 255))).bind fun t15 =>
 (pConv .i64 t15).bind fun t16 =>
 some ((A.top, [x0, t6, t10, t16])))) (
 none)) (
 none)) (
 (pBin .add false x1 (vi 1)).bind fun t17 =>
 brn (okA t17) (
 (pBin .mul false x2 (A.val (.int .u64 6364136223846793005))).bind fun t18 =>
 (pConv .u64 (vi 0)).bind fun t19 =>
 (pBin .add false t18 t19).bind fun t20 =>
 (pBin .add false t20 (A.val (.int .u64 892892))).bind fun t21 =>
 brn (okA t21) (
 (pLenL x0).bind fun t22 =>
 (pBin .leq false t17 t22).bind fun t23 =>
 (pBool t23).bind fun t24 =>
 brn t24 (
 some ((A.top, [x0, t17, t21, vi 0]))) (
 (pBin .shr false t21 (A.val (.int .u64 40))).bind fun t25 =>
 (pBin .and false t25 (A.val (.int .u64 255))).bind fun t26 =>
 (pConv .i64 t26).bind fun t27 =>
 some ((A.top, [x0, t17, t21, t27])))) (
 none)) (
 none)) :=
 (V_eq rfl Tryz.func142 rfl rfl).trans (by kernel_rfl)
theorem c143_0 (x0 x1 x2 : A) (r0 : List (List A)) : C143_0 x0 x1 x2 r0 =
 (C103_0 (rLen r0) x0 x1 x2).bind fun t0 =>
 (hD t0 0).bind fun t1 =>
 (hD t0 1).bind fun t2 =>
 (hD t0 2).bind fun t3 =>
 (hD t0 3).bind fun t4 =>
 (pIx (rLenN r0) t4).bind fun t5 =>
 (pRowP r0 t5 0).bind fun t6 =>
 some ((A.top, [t1, t2, t3, t6])) :=
 (V_eq rfl Tryz.func143 rfl rfl).trans (by kernel_rfl)
theorem c144_0 (x0 x1 x2 x3 : A) : C144_0 x0 x1 x2 x3 =
 (C143_0 x1 x2 x3 [[sv [88]], [sv [97]]]).bind fun t0 =>
 (hD t0 0).bind fun t1 =>
 (hD t0 1).bind fun t2 =>
 (hD t0 2).bind fun t3 =>
 (hD t0 3).bind fun t4 =>
 brn (okA t4) (
 brn (okA t4) (
 L144c0_0 x0 (sv []) t4 t1 t2 t3 [] []) (
 none)) (
 none) :=
 (V_eq rfl Tryz.func144 rfl rfl).trans (by kernel_rfl)
theorem l144c0_0 (x0 x1 x2 x3 x4 x5 : A) (r0 r1 : List (List A)) : L144c0_0 x0 x1 x2 x3 x4 x5 r0 r1 =
 (pBin .gtr false x0 (vi 1)).bind fun t5 =>
 (pBool t5).bind fun t6 =>
 brn t6 (
 brn (okA x2) (
 (pBin .sub false x0 (vi 1)).bind fun t7 =>
 L144c0_0 t7 x1 (sv [102]) x3 x4 x5 r0 [[x2, A.sl 2 r1]]) (
 none)) (
 brn (okA x2) (
 some ((A.top, [x3, x4, x5, x2, A.sl 2 r1]))) (
 none)) :=
 (H_eq Tryz.func144 rfl).trans (by kernel_rfl)
theorem c145_0 (x0 x1 x2 : A) : C145_0 x0 x1 x2 =
 L145c0_0 (vi 0) x0 x1 x2 (sv []) (sv [103]) [] [] :=
 (V_eq rfl Tryz.func145 rfl rfl).trans (by kernel_rfl)
theorem l145c0_0 (x0 x1 x2 x3 x4 x5 : A) (r0 r1 : List (List A)) : L145c0_0 x0 x1 x2 x3 x4 x5 r0 r1 =
 (pBin .lss false x0 (vi 4)).bind fun t0 =>
 (pBool t0).bind fun t1 =>
 brn t1 (
 L145c0_1 x0 (vi 0) x1 x2 x3 x4 x5 (sv [104]) r0 r1 []) (
 (C67_0 (vi 2) x1 x2 x3).bind fun t2 =>
 (hD t2 0).bind fun t3 =>
 (hD t2 1).bind fun t4 =>
 (hD t2 2).bind fun t5 =>
 (hD t2 3).bind fun t6 =>
 (pBool t6).bind fun t7 =>
 brn t7 (
 (pB (rCnt r1) (rRem r1 0) (some (vi 3))).bind fun t8 =>
 (C67_0 (vi 2) t3 t4 t5).bind fun t9 =>
 (hD t9 0).bind fun t10 =>
 (hD t9 1).bind fun t11 =>
 (hD t9 2).bind fun t12 =>
 (hD t9 3).bind fun t13 =>
 (pWant t13 true).bind fun t14 =>
 (pWant t13 true).bind fun t15 =>
 (pG t13 true (some (nA (nSub t8 0)))).bind fun t16 =>
 (pG t13 true (pBin .eql false t16 (vi 3))).bind fun t17 =>
 (pPick t13 t17 (vb false)).bind fun t18 =>
 (pBool t18).bind fun t19 =>
 brn t19 (
 brn (pRoom 0 (nSub t8 0) [[sv [102], A.sl 2 [[sv [98], A.sl 2 []]]]] r1) (
 brn (okA x5) (
 some ((A.top, [t10, t11, t12, A.agg [x5, A.sl 2 (List.take ((nSub t8 0) + (rCnt [[sv [102], A.sl 2 [[sv [98], A.sl 2 []]]]])) (rOver r1 (0 + (nSub t8 0)) [[sv [102], A.sl 2 [[sv [98], A.sl 2 []]]]]))]]))) (
 none)) (
 none)) (
 brn (okA x5) (
 some ((A.top, [t10, t11, t12, A.agg [x5, A.sl 2 (List.take (nSub t8 0) r1)]]))) (
 none))) (
 (C67_0 (vi 2) t3 t4 t5).bind fun t20 =>
 (hD t20 0).bind fun t21 =>
 (hD t20 1).bind fun t22 =>
 (hD t20 2).bind fun t23 =>
 (hD t20 3).bind fun t24 =>
 (pWant t24 true).bind fun t25 =>
 (pWant t24 true).bind fun t26 =>
 (pG t24 true (some (rLen r1))).bind fun t27 =>
 (pG t24 true (pBin .eql false t27 (vi 3))).bind fun t28 =>
 (pPick t24 t28 (vb false)).bind fun t29 =>
 (pBool t29).bind fun t30 =>
 brn t30 (
 brn (pFit ((rLenN r1) + (rLenN [[sv [102], A.sl 2 [[sv [98], A.sl 2 []]]]])) 40) (
 brn (okA x5) (
 some ((A.top, [t21, t22, t23, A.agg [x5, A.sl 2 (rApp r1 [[sv [102], A.sl 2 [[sv [98], A.sl 2 []]]]])]]))) (
 none)) (
 none)) (
 brn (okA x5) (
 some ((A.top, [t21, t22, t23, A.agg [x5, A.sl 2 r1]]))) (
 none)))) :=
 (H_eq Tryz.func145 rfl).trans (by kernel_rfl)
theorem l145c0_1 (x0 x1 x2 x3 x4 x5 x6 x7 : A) (r0 r1 r2 : List (List A)) : L145c0_1 x0 x1 x2 x3 x4 x5 x6 x7 r0 r1 r2 =
 (pBin .lss false x1 (vi 4)).bind fun t31 =>
 (pBool t31).bind fun t32 =>
 brn t32 (
 brn (pFit ((rLenN r2) + (rLenN [[sv [102], A.sl 2 [[sv [97], A.sl 2 []]]]])) 40) (
 (pBin .add false x1 (vi 1)).bind fun t33 =>
 L145c0_1 x0 t33 x2 x3 x4 x5 x6 x7 r0 r1 (rApp r2 [[sv [102], A.sl 2 [[sv [97], A.sl 2 []]]]])) (
 none)) (
 brn (okA x7) (
 brn (pFit ((rLenN r1) + (rLenN [[x7, A.sl 2 r2]])) 40) (
 (pBin .add false x0 (vi 1)).bind fun t34 =>
 L145c0_0 t34 x2 x3 x4 x5 x6 r0 (rApp r1 [[x7, A.sl 2 r2]])) (
 none)) (
 none)) :=
 (H_eq Tryz.func145 rfl).trans (by kernel_rfl)
theorem g146 (a0 : A) : G 146 [a0] =
 (pBin .geq false a0 (vy 65)).bind fun t0 =>
 (pG t0 true (some a0)).bind fun t1 =>
 (pG t0 true (pBin .leq false t1 (vy 90))).bind fun t2 =>
 (pPick t0 t2 (vb false)).bind fun t3 =>
 some ((t3, [])) :=
 (G_eq rfl Tryz.func146 rfl rfl).trans (by kernel_rfl)
theorem g147 (a0 a1 : A) : G 147 [a0, a1] =
 (pCells 2 a1).bind fun t0 =>
 ((G 82 [cGet t0 0]).bind (fin false)).bind fun t1 =>
 (pBool t1).bind fun t2 =>
 brn t2 (
 ((G 156 [a0, cGet t0 0]).bind (fin false)).bind fun t3 =>
 some ((t3, []))) (
 L147_0 a0 (vi 0) (cGet t0 0) (cGet t0 1)) :=
 (G_eq rfl Tryz.func147 rfl rfl).trans (by kernel_rfl)
theorem l147_0 (x0 x1 x2 x3 : A) : L147_0 x0 x1 x2 x3 =
 (pLenL x3).bind fun t4 =>
 (pBin .lss false x1 t4).bind fun t5 =>
 (pBool t5).bind fun t6 =>
 brn t6 (
 (pIndexAddr 2 x3 x1).bind fun t7 =>
 (pLoadN 2 t7).bind fun t8 =>
 ((G 147 [x0, t8]).bind (fin false)).bind fun t9 =>
 (pBin .add false x1 (vi 1)).bind fun t10 =>
 L147_0 t9 t10 x2 x3) (
 some ((x0, []))) :=
 (H_eq Tryz.func147 rfl).trans (by kernel_rfl)
theorem c148_0 (x0 x1 : A) (r0 : List (List A)) : C148_0 x0 x1 r0 =
 brn (okA x0) (
 brn (okA x1) (
 (pLenL x1).bind fun t0 =>
 (pBin .eql false t0 (vi 0)).bind fun t1 =>
 (pWant t1 true).bind fun t2 =>
 (pG t1 true ((G 123 [A.agg [x0, x1]]).bind (fin false))).bind fun t3 =>
 (pPick t1 t3 (vb false)).bind fun t4 =>
 (pBool t4).bind fun t5 =>
 brn t5 (
 ((G 87 [A.sl 1 r0, x0]).bind (fin true)).bind fun t6 =>
 (pUn .not t6).bind fun t7 =>
 (pBool t7).bind fun t8 =>
 brn t8 (
 brn (okA x0) (
 brn (pFit ((rLenN r0) + (rLenN [[x0]])) 16) (
 some ((A.top, [A.sl 1 (rApp r0 [[x0]])]))) (
 none)) (
 none)) (
 some ((A.top, [A.sl 1 r0])))) (
 (pLenL x1).bind fun t9 =>
 L148c0_0 x1 t9 (vi 0) r0)) (
 none)) (
 none) :=
 (V_eq rfl Tryz.func148 rfl rfl).trans (by kernel_rfl)
theorem l148c0_0 (x0 x1 x2 : A) (r0 : List (List A)) : L148c0_0 x0 x1 x2 r0 =
 (pBin .lss false x2 x1).bind fun t10 =>
 (pBool t10).bind fun t11 =>
 brn t11 (
 (pIndexAddr 2 x0 x2).bind fun t12 =>
 (pLoadN 2 t12).bind fun t13 =>
 (pCells 2 t13).bind fun t14 =>
 (C148_0 (cGet t14 0) (cGet t14 1) r0).bind fun t15 =>
 (hR 1 t15 0).bind fun t16 =>
 (pBin .add false x2 (vi 1)).bind fun t17 =>
 L148c0_1 x0 x1 t17 t16) (
 some ((A.top, [A.sl 1 r0]))) :=
 (H_eq Tryz.func148 rfl).trans (by kernel_rfl)
theorem l148c0_1 (x0 x1 x2 : A) (r0 : List (List A)) : L148c0_1 x0 x1 x2 r0 =
 (pBin .lss false x2 x1).bind fun t18 =>
 (pBool t18).bind fun t19 =>
 brn t19 (
 (pIndexAddr 2 x0 x2).bind fun t20 =>
 (pLoadN 2 t20).bind fun t21 =>
 (pCells 2 t21).bind fun t22 =>
 (C148_0 (cGet t22 0) (cGet t22 1) r0).bind fun t23 =>
 (hR 1 t23 0).bind fun t24 =>
 (pBin .add false x2 (vi 1)).bind fun t25 =>
 L148c0_1 x0 x1 t25 t24) (
 some ((A.top, [A.sl 1 r0]))) :=
 (H_eq Tryz.func148 rfl).trans (by kernel_rfl)
theorem c149_0 (r0 : List (List A)) : C149_0 r0 = sortX [V.row 0] [.row 1 r0] :=
 Eq.trans (X_eq (x := sortE) rfl) rfl
theorem g150 (a0 a1 : A) : G 150 [a0, a1] =
 (pBin .gtr false a0 a1).bind fun t0 =>
 (pBool t0).bind fun t1 =>
 brn t1 (
 some ((a0, []))) (
 some ((a1, []))) :=
 (G_eq rfl Tryz.func150 rfl rfl).trans (by kernel_rfl)
theorem g151 (a0 a1 : A) : G 151 [a0, a1] =
 (pCells 2 a1).bind fun t0 =>
 ((G 82 [cGet t0 0]).bind (fin false)).bind fun t1 =>
 (pUn .not t1).bind fun t2 =>
 (pBool t2).bind fun t3 =>
 brn t3 (
 ((G 156 [a0, cGet t0 0]).bind (fin false)).bind fun t4 =>
 L151_0 t4 (vi 0) (cGet t0 0) (cGet t0 1)) (
 L151_0 a0 (vi 0) (cGet t0 0) (cGet t0 1)) :=
 (G_eq rfl Tryz.func151 rfl rfl).trans (by kernel_rfl)
theorem l151_0 (x0 x1 x2 x3 : A) : L151_0 x0 x1 x2 x3 =
 (pLenL x3).bind fun t5 =>
 (pBin .lss false x1 t5).bind fun t6 =>
 (pBool t6).bind fun t7 =>
 brn t7 (
 (pIndexAddr 2 x3 x1).bind fun t8 =>
 (pLoadN 2 t8).bind fun t9 =>
 ((G 151 [x0, t9]).bind (fin false)).bind fun t10 =>
 (pBin .add false x1 (vi 1)).bind fun t11 =>
 L151_0 t10 t11 x2 x3) (
 some ((x0, []))) :=
 (H_eq Tryz.func151 rfl).trans (by kernel_rfl)
theorem g152 (a0 a1 a2 : A) : G 152 [a0, a1, a2] =
 (pCells 3 a0).bind fun t0 =>
 (pCells 2 a1).bind fun t1 =>
 (pCells 2 a2).bind fun t2 =>
 ((G 37 [A.agg [cGet t0 0, cGet t0 1, cGet t0 2]]).bind (fin false)).bind fun t3 =>
 (pUn .not t3).bind fun t4 =>
 (pWant t4 false).bind fun t5 =>
 (pWant t4 false).bind fun t6 =>
 (pG t4 false ((G 159 [A.agg [cGet t0 0, cGet t0 1, cGet t0 2], A.agg [cGet t1 0, cGet t1 1]]).bind (fin false))).bind fun t7 =>
 (pG t4 false (pUn .not t7)).bind fun t8 =>
 (pPick t4 (vb true) t8).bind fun t9 =>
 (pWant t9 false).bind fun t10 =>
 (pWant t9 false).bind fun t11 =>
 (pG t9 false ((G 159 [A.agg [cGet t0 0, cGet t0 1, cGet t0 2], A.agg [cGet t2 0, cGet t2 1]]).bind (fin false))).bind fun t12 =>
 (pG t9 false (pUn .not t12)).bind fun t13 =>
 (pPick t9 (vb true) t13).bind fun t14 =>
 (pBool t14).bind fun t15 =>
 brn t15 (
 some ((A.tup [vi 0, vb false], []))) (
 ((G 56 [A.agg [cGet t1 0, cGet t1 1], A.agg [cGet t2 0, cGet t2 1]]).bind (fin false)).bind fun t16 =>
 ((G 39 [A.agg [cGet t0 0, cGet t0 1, cGet t0 2], A.agg [cGet t1 0, cGet t1 1], A.agg [cGet t2 0, cGet t2 1]]).bind (fin false)).bind fun t17 =>
 ((G 39 [A.agg [cGet t0 0, cGet t0 1, cGet t0 2], A.agg [cGet t2 0, cGet t2 1], A.agg [cGet t1 0, cGet t1 1]]).bind (fin false)).bind fun t18 =>
 ((G 160 [t16, t17, t18]).bind (fin false)).bind fun t19 =>
 some ((A.tup [t19, vb true], []))) :=
 (G_eq rfl Tryz.func152 rfl rfl).trans (by kernel_rfl)
theorem c153_0 (x0 : A) : C153_0 x0 =
 (pRows 1 x0).bind fun t0 =>
 brn (pFit (rLenN t0) 8) (
 some ((A.top, [A.sl 1 t0]))) (
 none) :=
 (V_eq rfl Tryz.func153 rfl rfl).trans (by kernel_rfl)
theorem c154_0 (x0 x1 : A) (r0 : List (List A)) : C154_0 x0 x1 r0 =
 brn (okA x0) (
 brn (okA x1) (
 ((G 86 [x0]).bind (fin false)).bind fun t0 =>
 (pWant t0 true).bind fun t1 =>
 (pWant t0 true).bind fun t2 =>
 (pG t0 true (some x0)).bind fun t3 =>
 (pG t0 true ((G 87 [A.sl 1 r0, t3]).bind (fin true))).bind fun t4 =>
 (pG t0 true (pUn .not t4)).bind fun t5 =>
 (pPick t0 t5 (vb false)).bind fun t6 =>
 (pBool t6).bind fun t7 =>
 brn t7 (
 brn (okA x0) (
 brn (pFit ((rLenN r0) + (rLenN [[x0]])) 16) (
 (pLenL x1).bind fun t8 =>
 L154c0_0 x1 t8 (vi 0) (rApp r0 [[x0]])) (
 none)) (
 none)) (
 (pLenL x1).bind fun t9 =>
 L154c0_1 x1 t9 (vi 0) r0)) (
 none)) (
 none) :=
 (V_eq rfl Tryz.func154 rfl rfl).trans (by kernel_rfl)
theorem l154c0_0 (x0 x1 x2 : A) (r0 : List (List A)) : L154c0_0 x0 x1 x2 r0 =
 (pBin .lss false x2 x1).bind fun t10 =>
 (pBool t10).bind fun t11 =>
 brn t11 (
 (pIndexAddr 2 x0 x2).bind fun t12 =>
 (pLoadN 2 t12).bind fun t13 =>
 (pCells 2 t13).bind fun t14 =>
 (C154_0 (cGet t14 0) (cGet t14 1) r0).bind fun t15 =>
 (hR 1 t15 0).bind fun t16 =>
 (pBin .add false x2 (vi 1)).bind fun t17 =>
 L154c0_0 x0 x1 t17 t16) (
 some ((A.top, [A.sl 1 r0]))) :=
 (H_eq Tryz.func154 rfl).trans (by kernel_rfl)
theorem l154c0_1 (x0 x1 x2 : A) (r0 : List (List A)) : L154c0_1 x0 x1 x2 r0 =
 (pBin .lss false x2 x1).bind fun t18 =>
 (pBool t18).bind fun t19 =>
 brn t19 (
 (pIndexAddr 2 x0 x2).bind fun t20 =>
 (pLoadN 2 t20).bind fun t21 =>
 (pCells 2 t21).bind fun t22 =>
 (C154_0 (cGet t22 0) (cGet t22 1) r0).bind fun t23 =>
 (hR 1 t23 0).bind fun t24 =>
 (pBin .add false x2 (vi 1)).bind fun t25 =>
 L154c0_0 x0 x1 t25 t24) (
 some ((A.top, [A.sl 1 r0]))) :=
 (H_eq Tryz.func154 rfl).trans (by kernel_rfl)
theorem c155_0 (x0 : A) (r0 : List (List A)) : C155_0 x0 r0 =
 (pBin .lss false x0 (vi 0)).bind fun t0 =>
 (pBool t0).bind fun t1 =>
 brn t1 (
 none) (
 (pConv .u64 (rLen r0)).bind fun t2 =>
 (pConv .u64 x0).bind fun t3 =>
 ((G 161 [t2, t3]).bind (fin false)).bind fun t4 =>
 (pTup t4 0).bind fun t5 =>
 (pTup t4 1).bind fun t6 =>
 (pBin .gtr false t5 (A.val (.int .u64 0))).bind fun t7 =>
 (pG t7 false (some t6)).bind fun t8 =>
 (pG t7 false (pBin .gtr false t8 (A.val (.int .u64 9223372036854775807)))).bind fun t9 =>
 (pPick t7 (vb true) t9).bind fun t10 =>
 (pBool t10).bind fun t11 =>
 brn t11 (
 none) (
 (pConv .i64 t6).bind fun t12 =>
 (pMake 8 t12 t12).bind fun t13 =>
 L155c0_0 (rMin r0 (rCnt (rRep t13 [vi 0]))) (rOver (rRep t13 [vi 0]) 0 (rTake r0 (rCnt (rRep t13 [vi 0])))) r0)) :=
 (V_eq rfl Tryz.func155 rfl rfl).trans (by kernel_rfl)
theorem l155c0_0 (x0 : A) (r0 r1 : List (List A)) : L155c0_0 x0 r0 r1 =
 (pBin .lss false x0 (rLen r0)).bind fun t14 =>
 (pBool t14).bind fun t15 =>
 brn t15 (
 (pB (rCnt r0) (rRem r0 0) none).bind fun t16 =>
 (pB 0 t16 (some x0)).bind fun t17 =>
 (pB (rCnt r0) (rRem r0 0) (some x0)).bind fun t18 =>
 (pBin .add false x0 (rMin (rWin r0 0 (nSub t18 0)) (nSub t16 t17))).bind fun t19 =>
 L155c0_0 t19 (rOver r0 (0 + t17) (rTake (rWin r0 0 (nSub t18 0)) (nSub t16 t17))) r1) (
 some ((A.top, [A.sl 1 r0]))) :=
 (H_eq Tryz.func155 rfl).trans (by kernel_rfl)
theorem g156 (a0 a1 : A) : G 156 [a0, a1] =
 L156_0 a0 a1 (vi 0) :=
 (G_eq rfl Tryz.func156 rfl rfl).trans (by kernel_rfl)
theorem l156_0 (x0 x1 x2 : A) : L156_0 x0 x1 x2 =
 (pLenL x0).bind fun t0 =>
 (pBin .lss false x2 t0).bind fun t1 =>
 (pG t1 true (some x0)).bind fun t2 =>
 (pG t1 true (some x2)).bind fun t3 =>
 (pG t1 true (pIndexAddr 1 t2 t3)).bind fun t4 =>
 (pG t1 true (pLoadP t4)).bind fun t5 =>
 (pG t1 true (some x1)).bind fun t6 =>
 (pG t1 true (pBin .lss false t5 t6)).bind fun t7 =>
 (pPick t1 t7 (vb false)).bind fun t8 =>
 (pBool t8).bind fun t9 =>
 brn t9 (
 (pBin .add false x2 (vi 1)).bind fun t10 =>
 L156_0 x0 x1 t10) (
 (pLenL x0).bind fun t11 =>
 (pBin .lss false x2 t11).bind fun t12 =>
 (pG t12 true (some x0)).bind fun t13 =>
 (pG t12 true (some x2)).bind fun t14 =>
 (pG t12 true (pIndexAddr 1 t13 t14)).bind fun t15 =>
 (pG t12 true (pLoadP t15)).bind fun t16 =>
 (pG t12 true (some x1)).bind fun t17 =>
 (pG t12 true (pBin .eql false t16 t17)).bind fun t18 =>
 (pPick t12 t18 (vb false)).bind fun t19 =>
 (pBool t19).bind fun t20 =>
 brn t20 (
 some ((x0, []))) (
 (pSlice 1 x0 none (some x2)).bind fun t21 =>
 (pRows 1 t21).bind fun t22 =>
 brn (pFit (rLenN t22) 16) (
 brn (okA x1) (
 brn (pFit ((rLenN t22) + (rLenN [[x1]])) 16) (
 (pSlice 1 x0 (some x2) none).bind fun t23 =>
 (pRows 1 t23).bind fun t24 =>
 brn (pFit ((rLenN (rApp t22 [[x1]])) + (rLenN t24)) 16) (
 some ((A.sl 1 (rApp (rApp t22 [[x1]]) t24), []))) (
 none)) (
 none)) (
 none)) (
 none))) :=
 (H_eq Tryz.func156 rfl).trans (by kernel_rfl)
theorem g159 (a0 a1 : A) : G 159 [a0, a1] =
 (pCells 3 a0).bind fun t0 =>
 (pCells 2 a1).bind fun t1 =>
 ((G 60 [A.agg [cGet t1 0, cGet t1 1]]).bind (fin false)).bind fun t2 =>
 (pWant t2 true).bind fun t3 =>
 (pWant t2 true).bind fun t4 =>
 (pG t2 true ((G 79 [A.agg [cGet t0 0, cGet t0 1, cGet t0 2], A.agg [cGet t1 0, cGet t1 1]]).bind (fin false))).bind fun t5 =>
 (pPick t2 t5 (vb false)).bind fun t6 =>
 some ((t6, [])) :=
 (G_eq rfl Tryz.func159 rfl rfl).trans (by kernel_rfl)
theorem g160 (a0 a1 a2 : A) : G 160 [a0, a1, a2] =
 (pBool a0).bind fun t0 =>
 brn t0 (
 some ((vi 1, []))) (
 (pBool a1).bind fun t1 =>
 brn t1 (
 some ((vi 2, []))) (
 (pBool a2).bind fun t2 =>
 brn t2 (
 some ((vi 3, []))) (
 some ((vi 0, []))))) :=
 (G_eq rfl Tryz.func160 rfl rfl).trans (by kernel_rfl)
theorem g161 (a0 a1 : A) : G 161 [a0, a1] =
 (pBool (vb false)).bind fun t0 =>
 brn t0 (
 (pConv .u32 a0).bind fun t1 =>
 (pConv .u32 a1).bind fun t2 =>
 ((G 173 [t1, t2]).bind (fin false)).bind fun t3 =>
 (pTup t3 0).bind fun t4 =>
 (pTup t3 1).bind fun t5 =>
 (pConv .u64 t4).bind fun t6 =>
 (pConv .u64 t5).bind fun t7 =>
 some ((A.tup [t6, t7], []))) (
 ((G 174 [a0, a1]).bind (fin false)).bind fun t8 =>
 (pTup t8 0).bind fun t9 =>
 (pTup t8 1).bind fun t10 =>
 some ((A.tup [t9, t10], []))) :=
 (G_eq rfl Tryz.func161 rfl rfl).trans (by kernel_rfl)
theorem g174 (a0 a1 : A) : G 174 [a0, a1] =
 (pBin .and false a0 (A.val (.int .u64 4294967295))).bind fun t0 =>
 (pBin .shr false a0 (A.val (.int .u64 32))).bind fun t1 =>
 (pBin .and false a1 (A.val (.int .u64 4294967295))).bind fun t2 =>
 (pBin .shr false a1 (A.val (.int .u64 32))).bind fun t3 =>
 (pBin .mul false t0 t2).bind fun t4 =>
 (pBin .mul false t1 t2).bind fun t5 =>
 (pBin .shr false t4 (A.val (.int .u64 32))).bind fun t6 =>
 (pBin .add false t5 t6).bind fun t7 =>
 (pBin .and false t7 (A.val (.int .u64 4294967295))).bind fun t8 =>
 (pBin .shr false t7 (A.val (.int .u64 32))).bind fun t9 =>
 (pBin .mul false t0 t3).bind fun t10 =>
 (pBin .add false t8 t10).bind fun t11 =>
 (pBin .mul false t1 t3).bind fun t12 =>
 (pBin .add false t12 t9).bind fun t13 =>
 (pBin .shr false t11 (A.val (.int .u64 32))).bind fun t14 =>
 (pBin .add false t13 t14).bind fun t15 =>
 (pBin .mul false a0 a1).bind fun t16 =>
 some ((A.tup [t15, t16], [])) :=
 (G_eq rfl Tryz.func174 rfl rfl).trans (by kernel_rfl)
end Go.Proofs.YtnbjmmldjggkfaaGreat
