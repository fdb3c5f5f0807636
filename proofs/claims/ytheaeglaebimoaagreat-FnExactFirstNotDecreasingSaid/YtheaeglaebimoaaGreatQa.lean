/- WRITTEN BY A PROGRAM (gen.py): what functions come to, as equations. -/
import Derived.Test.YtheaeglaebimoaaGreatK
import Derived.KernelRfl
set_option linter.unusedVariables false
namespace Go.Proofs.YtheaeglaebimoaaGreat
open Go Go.RowKit Go.Proofs.YtheaeglaebimoaaGreat.Abs
noncomputable def L8_0 (x0 x1 x2 : A) : Option Out := MM K (.head 8 [1, 1, 1, 0, 1, 0] [V.d x0, V.d x1, V.top, V.top, V.top, V.d x2, V.top, V.top, V.top, V.top, V.top, V.top, V.top, V.top, V.top, V.top, V.top, V.top, V.top, V.top, V.top, V.top, V.top, V.top, V.top, V.top, V.top] [] none)
noncomputable def L9_0 (x0 x1 x2 x3 x4 : A) : Option Out := MM K (.head 9 [1, 1, 0, 1, 0] [V.top, V.d x0, V.ptr 0 0, V.top, V.top, V.top, V.d x1, V.top, V.top, V.top, V.top, V.top, V.top, V.top, V.top, V.top, V.top, V.top, V.top, V.top, V.top, V.top, V.top, V.top, V.top, V.top, V.top, V.top, V.top, V.top, V.top, V.top, V.top, V.top, V.top, V.top, V.top, V.top, V.top, V.top, V.top, V.top, V.top, V.top, V.top, V.top, V.top, V.top, V.top, V.top, V.top, V.top, V.top] [.box [V.d x2, V.d x3, V.d x4]] none)
noncomputable def L9_1 (x0 x1 x2 x3 x4 : A) : Option Out := MM K (.head 9 [1, 1, 1, 0, 1, 0] [V.top, V.d x0, V.ptr 0 0, V.top, V.top, V.top, V.top, V.d x1, V.top, V.top, V.top, V.top, V.top, V.top, V.top, V.top, V.top, V.top, V.top, V.top, V.top, V.top, V.top, V.top, V.top, V.top, V.top, V.top, V.top, V.top, V.top, V.top, V.top, V.top, V.top, V.top, V.top, V.top, V.top, V.top, V.top, V.top, V.top, V.top, V.top, V.top, V.top, V.top, V.top, V.top, V.top, V.top, V.top] [.box [V.d x2, V.d x3, V.d x4]] none)
noncomputable def L11_0 (x0 x1 : A) (r0 : List (List A)) : Option Out := MM K (.head 11 [1, 1, 0, 1, 0] [V.d x0, V.top, V.top, V.row 0, V.d x1, V.top, V.top, V.top, V.top, V.top, V.top, V.top, V.top, V.top, V.top, V.top, V.top, V.top, V.top, V.top, V.top, V.top, V.top] [.row 2 r0] none)
noncomputable def L12_0 (x0 x1 x2 x3 x4 x5 x6 : A) : Option Out := MM K (.head 12 [1, 1, 1, 0, 1, 0] [V.top, V.top, V.ptr 0 0, V.top, V.top, V.top, V.d x0, V.top, V.top, V.top, V.top, V.top, V.top, V.top, V.top, V.top, V.top, V.top, V.top, V.top, V.d x1, V.d x2, V.d x3, V.top, V.top, V.top, V.top, V.top, V.top, V.top, V.top, V.top, V.top, V.top, V.top, V.top, V.top, V.top, V.top, V.top, V.top, V.top, V.top, V.top, V.top, V.top, V.top, V.top, V.top, V.top, V.top, V.top, V.top, V.top] [.box [V.d x4, V.d x5, V.d x6]] none)
noncomputable def L14_0 (x0 x1 x2 : A) : Option Out := MM K (.head 14 [1, 1, 0, 1, 0] [V.d x0, V.d x1, V.top, V.top, V.top, V.d x2, V.top, V.top, V.top, V.top, V.top, V.top, V.top, V.top, V.top, V.top, V.top, V.top, V.top, V.top, V.top, V.top, V.top, V.top, V.top, V.top, V.top] [] none)
noncomputable def L33_0 (x0 x1 x2 : A) : Option Out := MM K (.head 33 [1, 1, 1, 0, 1, 0] [V.d x0, V.d x1, V.top, V.top, V.top, V.d x2, V.top, V.top, V.top, V.top, V.top, V.top, V.top, V.top, V.top, V.top, V.top, V.top, V.top, V.top, V.top, V.top, V.top, V.top, V.top, V.top, V.top, V.top] [] none)
noncomputable def L35_0 (x0 x1 x2 x3 : A) : Option Out := MM K (.head 35 [1, 1, 0, 1, 0] [V.top, V.ptr 0 0, V.top, V.d x0, V.top, V.top, V.top, V.top, V.top, V.top, V.top, V.top, V.top, V.top, V.top, V.top, V.top, V.top, V.top, V.top, V.top, V.top, V.top, V.top, V.top, V.top, V.top, V.top, V.top, V.top, V.top, V.top, V.top, V.top, V.top, V.top, V.top, V.top, V.top, V.top, V.top, V.top, V.top, V.top, V.top, V.top, V.top, V.top, V.top, V.top, V.top, V.top, V.top, V.top, V.top, V.top, V.top, V.top, V.top, V.top, V.top] [.box [V.d x1, V.d x2, V.d x3]] none)
noncomputable def L38_0 (x0 x1 : A) (r0 : List (List A)) : Option Out := MM K (.head 38 [1, 1, 0, 1, 0] [V.d x0, V.top, V.top, V.row 0, V.d x1, V.top, V.top, V.top, V.top, V.top, V.top, V.top, V.top, V.top, V.top, V.top, V.top, V.top, V.top, V.top, V.top, V.top] [.row 1 r0] none)
noncomputable def L39_0 (x0 x1 : A) (r0 : List (List A)) : Option Out := MM K (.head 39 [1, 1, 0, 1, 0] [V.d x0, V.top, V.top, V.row 0, V.d x1, V.top, V.top, V.top, V.top, V.top, V.top, V.top, V.top, V.top, V.top, V.top, V.top, V.top, V.top, V.top, V.top, V.top] [.row 1 r0] none)
noncomputable def L40_0 (x0 x1 x2 x3 x4 x5 : A) : Option Out := MM K (.head 40 [1, 1, 0, 1, 0] [V.top, V.ptr 0 0, V.top, V.top, V.top, V.top, V.top, V.top, V.top, V.top, V.top, V.top, V.top, V.top, V.top, V.top, V.top, V.top, V.top, V.top, V.top, V.top, V.top, V.top, V.top, V.top, V.d x0, V.d x1, V.d x2, V.top, V.top, V.top, V.top, V.top, V.top, V.top, V.top, V.top, V.top, V.top, V.top, V.top, V.top, V.top, V.top, V.top, V.top, V.top, V.top, V.top, V.top, V.top, V.top, V.top, V.top, V.top] [.box [V.d x3, V.d x4, V.d x5]] none)
noncomputable def L41_0 (x0 x1 x2 x3 x4 x5 x6 x7 x8 x9 : A) : Option Out := MM K (.head 41 [1, 0, 1, 0] [V.top, V.top, V.top, V.ptr 0 0, V.ptr 1 0, V.ptr 2 0, V.top, V.top, V.top, V.top, V.top, V.top, V.top, V.top, V.top, V.d x0, V.d x1, V.d x2, V.top, V.top, V.top, V.top, V.top, V.top, V.top, V.top, V.top, V.top, V.top, V.top, V.top, V.top, V.top, V.top, V.top, V.top, V.top, V.top, V.top, V.top, V.top, V.top, V.top, V.top, V.top, V.top, V.top, V.top, V.top, V.top, V.top, V.top, V.top, V.top, V.top, V.top, V.top, V.top, V.top, V.top, V.top, V.top, V.top, V.top, V.top, V.top, V.top] [.box [V.d x3, V.d x4, V.d x5], .box [V.d x6, V.d x7], .box [V.d x8, V.d x9]] none)
noncomputable def L42_0 (x0 x1 x2 : A) : Option Out := MM K (.head 42 [1, 1, 0, 1, 0] [V.d x0, V.d x1, V.top, V.top, V.top, V.d x2, V.top, V.top, V.top, V.top, V.top, V.top, V.top, V.top, V.top, V.top, V.top, V.top, V.top, V.top, V.top, V.top, V.top, V.top, V.top, V.top] [] none)
noncomputable def L43_0 (x0 x1 x2 : A) : Option Out := MM K (.head 43 [1, 1, 0, 1, 0] [V.d x0, V.d x1, V.top, V.top, V.top, V.d x2, V.top, V.top, V.top, V.top, V.top, V.top, V.top, V.top, V.top, V.top, V.top, V.top, V.top, V.top, V.top, V.top, V.top, V.top, V.top, V.top] [] none)
noncomputable def L50_0 (x0 x1 x2 x3 x4 : A) : Option Out := MM K (.head 50 [1, 1, 0, 1, 0] [V.top, V.top, V.ptr 0 0, V.ptr 1 0, V.top, V.d x0, V.top, V.top, V.top, V.top, V.top, V.top, V.top, V.top, V.top, V.top, V.top, V.top, V.top, V.top, V.top, V.top, V.top, V.top, V.top, V.top, V.top, V.top, V.top, V.top, V.top, V.top, V.top, V.top, V.top, V.top, V.top, V.top, V.top] [.box [V.d x1, V.d x2], .box [V.d x3, V.d x4]] none)
noncomputable def L56_0 (x0 x1 x2 x3 x4 x5 x6 x7 : A) : Option Out := MM K (.head 56 [1, 1, 0, 1, 0] [V.top, V.top, V.top, V.ptr 0 0, V.ptr 1 0, V.ptr 2 0, V.top, V.d x0, V.top, V.top, V.top, V.top, V.top, V.top, V.top, V.top, V.top, V.top, V.top, V.top, V.top, V.top, V.top, V.top, V.top, V.top, V.top, V.top, V.top, V.top, V.top, V.top, V.top, V.top, V.top, V.top, V.top, V.top, V.top, V.top, V.top, V.top, V.top, V.top, V.top, V.top, V.top, V.top, V.top, V.top, V.top, V.top, V.top, V.top, V.top, V.top, V.top, V.top, V.top, V.top, V.top, V.top, V.top, V.top, V.top, V.top, V.top, V.top, V.top, V.top, V.top, V.top, V.top, V.top, V.top, V.top, V.top, V.top, V.top, V.top, V.top, V.top, V.top, V.top] [.box [V.d x1, V.d x2, V.d x3], .box [V.d x4, V.d x5], .box [V.d x6, V.d x7]] none)
noncomputable def L56_1 (x0 x1 x2 x3 x4 x5 x6 x7 x8 : A) : Option Out := MM K (.head 56 [1, 1, 1, 1, 1, 1, 0, 1, 0] [V.top, V.top, V.top, V.ptr 0 0, V.ptr 1 0, V.ptr 2 0, V.top, V.top, V.d x0, V.d x1, V.top, V.top, V.top, V.top, V.top, V.top, V.top, V.top, V.top, V.top, V.top, V.top, V.top, V.top, V.top, V.top, V.top, V.top, V.top, V.top, V.top, V.top, V.top, V.top, V.top, V.top, V.top, V.top, V.top, V.top, V.top, V.top, V.top, V.top, V.top, V.top, V.top, V.top, V.top, V.top, V.top, V.top, V.top, V.top, V.top, V.top, V.top, V.top, V.top, V.top, V.top, V.top, V.top, V.top, V.top, V.top, V.top, V.top, V.top, V.top, V.top, V.top, V.top, V.top, V.top, V.top, V.top, V.top, V.top, V.top, V.top, V.top, V.top, V.top] [.box [V.d x2, V.d x3, V.d x4], .box [V.d x5, V.d x6], .box [V.d x7, V.d x8]] none)
noncomputable def C61_0 (x0 x1 : A) : Option Out := MM K (.callv 61 [V.agg [V.d x0, V.d x1]] [])
noncomputable def L68_0 (x0 x1 : A) : Option Out := MM K (.head 68 [1, 1, 1, 0, 1, 0] [V.d x0, V.top, V.top, V.d x1, V.top, V.top, V.top, V.top, V.top, V.top, V.top, V.top, V.top, V.top, V.top, V.top, V.top, V.top, V.top, V.top, V.top, V.top, V.top, V.top, V.top, V.top, V.top, V.top, V.top, V.top, V.top, V.top, V.top, V.top, V.top, V.top, V.top, V.top, V.top, V.top, V.top, V.top, V.top, V.top, V.top] [] none)
noncomputable def L69_0 (x0 x1 x2 : A) : Option Out := MM K (.head 69 [1, 0, 1, 0] [V.d x0, V.d x1, V.top, V.top, V.top, V.d x2, V.top, V.top, V.top, V.top, V.top, V.top, V.top, V.top, V.top, V.top, V.top, V.top] [] none)
noncomputable def L71_0 (x0 x1 x2 x3 x4 x5 : A) : Option Out := MM K (.head 71 [1, 1, 0, 1, 0] [V.top, V.top, V.ptr 0 0, V.ptr 1 0, V.top, V.d x0, V.top, V.top, V.top, V.top, V.top, V.top, V.top, V.top, V.top, V.top, V.top, V.top, V.top, V.top, V.top, V.top, V.top, V.top, V.top, V.top, V.top, V.top, V.top, V.top, V.top, V.top] [.box [V.d x1, V.d x2, V.d x3], .box [V.d x4, V.d x5]] none)
noncomputable def L72_0 (x0 x1 x2 x3 x4 x5 : A) : Option Out := MM K (.head 72 [1, 1, 0, 1, 0] [V.top, V.top, V.ptr 0 0, V.ptr 1 0, V.top, V.d x0, V.d x1, V.top, V.top, V.top, V.top, V.top, V.top, V.top, V.top, V.top, V.top, V.top, V.top, V.top, V.top, V.top, V.top, V.top, V.top, V.top, V.top, V.top] [.box [V.d x2, V.d x3], .box [V.d x4, V.d x5]] none)
noncomputable def L73_0 (x0 x1 x2 x3 x4 x5 x6 : A) : Option Out := MM K (.head 73 [1, 1, 1, 0, 1, 0] [V.top, V.top, V.ptr 0 0, V.ptr 1 0, V.top, V.d x0, V.d x1, V.top, V.top, V.top, V.top, V.top, V.top, V.top, V.top, V.top, V.top, V.top, V.top, V.top, V.top, V.top, V.top, V.top, V.top, V.top, V.top, V.top, V.top, V.top, V.top, V.top, V.top, V.top, V.top, V.top, V.top, V.top] [.box [V.d x2, V.d x3, V.d x4], .box [V.d x5, V.d x6]] none)
noncomputable def L74_0 (x0 x1 : A) : Option Out := MM K (.head 74 [1, 1, 0, 1, 0] [V.d x0, V.top, V.top, V.d x1, V.top, V.top, V.top, V.top, V.top, V.top, V.top, V.top, V.top, V.top, V.top, V.top, V.top, V.top, V.top, V.top, V.top, V.top, V.top, V.top, V.top, V.top, V.top, V.top, V.top] [] none)
noncomputable def L76_0 (x0 x1 x2 x3 x4 : A) : Option Out := MM K (.head 76 [1, 0, 1, 0] [V.top, V.top, V.ptr 0 0, V.ptr 1 0, V.top, V.d x0, V.top, V.top, V.top, V.top, V.top, V.top, V.top, V.top, V.top, V.top, V.top, V.top, V.top, V.top, V.top, V.top, V.top, V.top, V.top, V.top] [.box [V.d x1, V.d x2], .box [V.d x3, V.d x4]] none)
noncomputable def L78_0 (x0 x1 x2 : A) : Option Out := MM K (.head 78 [1, 0, 1, 0] [V.d x0, V.top, V.top, V.top, V.top, V.d x1, V.d x2, V.top, V.top, V.top, V.top, V.top, V.top, V.top, V.top, V.top, V.top, V.top, V.top, V.top, V.top, V.top, V.top, V.top, V.top, V.top, V.top, V.top, V.top, V.top, V.top, V.top, V.top, V.top, V.top, V.top, V.top, V.top, V.top, V.top, V.top, V.top, V.top, V.top, V.top, V.top, V.top, V.top] [] none)
noncomputable def L81_0 (x0 x1 x2 x3 x4 : A) : Option Out := MM K (.head 81 [1, 1, 1, 0, 1, 0] [V.top, V.d x0, V.top, V.top, V.top, V.d x1, V.top, V.top, V.top, V.top, V.top, V.top, V.top, V.d x2, V.d x3, V.d x4, V.top, V.top, V.top, V.top, V.top, V.top, V.top, V.top, V.top, V.top] [] none)
noncomputable def L82_0 (x0 x1 x2 x3 x4 x5 x6 : A) : Option Out := MM K (.head 82 [1, 1, 1, 0, 1, 0] [V.top, V.top, V.ptr 0 0, V.top, V.top, V.d x0, V.top, V.top, V.top, V.top, V.top, V.top, V.top, V.top, V.top, V.top, V.top, V.top, V.top, V.top, V.top, V.top, V.d x1, V.d x2, V.d x3, V.top, V.top, V.top, V.top, V.top, V.top, V.top, V.top, V.top, V.top] [.box [V.d x4, V.d x5, V.d x6]] none)
noncomputable def L85_0 (x0 x1 x2 x3 x4 x5 x6 : A) (r0 r1 : List (List A)) : Option Out := MM K (.head 85 [1, 1, 0, 1, 0] [V.top, V.top, V.top, V.ptr 0 0, V.ptr 1 0, V.ptr 2 0, V.top, V.top, V.top, V.top, V.top, V.top, V.top, V.top, V.top, V.top, V.top, V.top, V.top, V.top, V.top, V.top, V.top, V.top, V.top, V.top, V.d x0, V.d x1, V.d x2, V.top, V.top, V.top, V.top, V.top, V.top, V.top, V.top, V.top, V.top, V.top, V.top, V.top, V.top, V.top, V.top, V.top, V.top, V.top, V.top, V.top] [.box [V.d x3, V.d x4], .box [V.d x5, V.row 3], .box [V.d x6, V.row 4], .row 2 r0, .row 2 r1] none)
noncomputable def L98_0 (x0 x1 x2 x3 x4 : A) : Option Out := MM K (.head 98 [1, 1, 0, 1, 0] [V.top, V.d x0, V.d x1, V.top, V.top, V.top, V.top, V.top, V.top, V.top, V.top, V.top, V.top, V.top, V.top, V.d x2, V.d x3, V.d x4, V.top, V.top, V.top, V.top, V.top, V.top, V.top, V.top, V.top, V.top, V.top, V.top, V.top, V.top] [] none)
noncomputable def C103_0 (x0 : A) : Option Out := MM K (.callv 103 [V.d x0] [])
noncomputable def L103c0_0 (x0 x1 x2 : A) (r0 : List (List A)) : Option Out := MM K (.head 103 [1, 1, 1, 0, 1, 0] [V.top, V.top, V.top, V.row 0, V.top, V.top, V.top, V.top, V.top, V.top, V.top, V.top, V.d x0, V.d x1, V.d x2, V.top, V.top, V.top, V.top, V.top, V.top, V.top, V.top, V.top, V.top, V.top] [.row 2 r0] (some []))
noncomputable def L107_0 (x0 x1 x2 : A) : Option Out := MM K (.head 107 [1, 1, 1, 0, 1, 0] [V.top, V.ptr 0 0, V.top, V.d x0, V.top, V.top, V.top, V.top, V.top, V.top, V.top, V.top, V.top, V.top, V.top, V.top, V.top, V.top, V.top, V.top, V.top, V.top, V.top, V.top, V.top, V.top, V.top, V.top, V.top, V.top, V.top, V.top, V.top, V.top, V.top] [.box [V.d x1, V.d x2]] none)
noncomputable def L108_0 (x0 x1 x2 x3 x4 : A) : Option Out := MM K (.head 108 [1, 0, 1, 0] [V.top, V.d x0, V.ptr 0 0, V.top, V.top, V.d x1, V.top, V.top, V.top, V.top, V.top, V.top, V.top, V.top, V.top, V.top, V.top, V.top, V.top, V.top, V.top] [.box [V.d x2, V.d x3, V.d x4]] none)
noncomputable def L110_0 (x0 x1 x2 x3 x4 : A) : Option Out := MM K (.head 110 [1, 1, 1, 0, 1, 0] [V.top, V.d x0, V.ptr 0 0, V.top, V.top, V.d x1, V.d x2, V.top, V.top, V.top, V.top, V.top, V.top, V.top, V.top, V.top, V.top, V.top, V.top, V.top, V.top, V.top, V.top, V.top, V.top, V.top, V.top, V.top] [.box [V.d x3, V.d x4]] none)
noncomputable def L114_0 (x0 x1 x2 x3 : A) : Option Out := MM K (.head 114 [1, 0, 1, 0] [V.d x0, V.d x1, V.top, V.top, V.top, V.top, V.top, V.d x2, V.d x3, V.top, V.top, V.top, V.top, V.top, V.top, V.top, V.top, V.top, V.top] [] none)
noncomputable def C115_0 (x0 x1 : A) (r0 : List (List A)) : Option Out := MM K (.callv 115 [V.row 0, V.agg [V.d x0, V.d x1]] [.row 1 r0])
noncomputable def L115c0_0 (x0 x1 x2 : A) (r0 : List (List A)) : Option Out := MM K (.head 115 [1, 1, 0, 1, 0] [V.row 0, V.top, V.top, V.top, V.top, V.top, V.top, V.top, V.top, V.top, V.top, V.top, V.top, V.top, V.top, V.top, V.top, V.top, V.top, V.top, V.top, V.top, V.top, V.top, V.top, V.top, V.top, V.d x0, V.d x1, V.d x2, V.top, V.top, V.top, V.top, V.top, V.top, V.top, V.top] [.row 1 r0] (some [0]))
noncomputable def L115c0_1 (x0 x1 x2 : A) (r0 : List (List A)) : Option Out := MM K (.head 115 [1, 1, 0, 1, 0] [V.row 0, V.top, V.top, V.top, V.top, V.top, V.top, V.top, V.top, V.top, V.top, V.top, V.top, V.top, V.top, V.top, V.top, V.top, V.top, V.top, V.top, V.top, V.top, V.top, V.top, V.top, V.top, V.d x0, V.d x1, V.d x2, V.top, V.top, V.top, V.top, V.top, V.top, V.top, V.top] [.row 1 r0, .gone] (some [1]))
noncomputable def C116_0 (r0 : List (List A)) : Option Out := MM K (.callv 116 [V.row 0] [.row 1 r0])
noncomputable def L121_0 (x0 x1 x2 x3 : A) : Option Out := MM K (.head 121 [1, 0, 1, 0] [V.d x0, V.d x1, V.top, V.top, V.top, V.top, V.top, V.d x2, V.d x3, V.top, V.top, V.top, V.top, V.top, V.top, V.top, V.top, V.top, V.top] [] none)
noncomputable def L125_0 (x0 x1 x2 x3 x4 : A) : Option Out := MM K (.head 125 [1, 1, 0, 1, 0] [V.top, V.d x0, V.ptr 0 0, V.top, V.top, V.d x1, V.d x2, V.top, V.top, V.top, V.top, V.top, V.top, V.top, V.top, V.top, V.top, V.top, V.top, V.top, V.top, V.top, V.top, V.top, V.top, V.top, V.top, V.top, V.top, V.top, V.top] [.box [V.d x3, V.d x4]] none)
noncomputable def L126_0 (x0 x1 x2 x3 : A) : Option Out := MM K (.head 126 [1, 1, 0, 1, 0] [V.top, V.ptr 0 0, V.top, V.d x0, V.d x1, V.top, V.top, V.top, V.top, V.top, V.top, V.top, V.top, V.top, V.top, V.top, V.top, V.top, V.top, V.top, V.top, V.top] [.box [V.d x2, V.d x3]] none)
noncomputable def L127_0 (x0 x1 x2 x3 : A) : Option Out := MM K (.head 127 [1, 1, 0, 1, 0] [V.d x0, V.top, V.top, V.ptr 0 0, V.top, V.d x1, V.top, V.top, V.top, V.top, V.top, V.top, V.top, V.top, V.top, V.top, V.top, V.top, V.top, V.top, V.top, V.top, V.top, V.top, V.top, V.top, V.top, V.top] [.box [V.d x2, V.d x3]] none)
noncomputable def L130_0 (x0 x1 x2 x3 : A) : Option Out := MM K (.head 130 [1, 1, 0, 1, 0] [V.top, V.top, V.top, V.d x0, V.top, V.top, V.top, V.d x1, V.d x2, V.d x3, V.top, V.top, V.top, V.top, V.top, V.top, V.top, V.top, V.top, V.top, V.top, V.top] [] none)
noncomputable def L131_0 (x0 x1 x2 x3 : A) : Option Out := MM K (.head 131 [1, 1, 0, 1, 0] [V.top, V.top, V.top, V.d x0, V.top, V.top, V.top, V.d x1, V.d x2, V.d x3, V.top, V.top, V.top, V.top, V.top, V.top, V.top, V.top, V.top, V.top] [] none)
noncomputable def L132_0 (x0 x1 x2 : A) : Option Out := MM K (.head 132 [1, 0, 1, 0] [V.d x0, V.top, V.top, V.top, V.top, V.d x1, V.d x2, V.top, V.top, V.top, V.top, V.top, V.top, V.top, V.top, V.top, V.top, V.top, V.top, V.top, V.top, V.top, V.top, V.top, V.top, V.top, V.top, V.top, V.top, V.top, V.top, V.top, V.top, V.top, V.top, V.top, V.top, V.top, V.top, V.top] [] none)
noncomputable def L135_0 (x0 x1 x2 : A) : Option Out := MM K (.head 135 [1, 1, 0, 0] [V.d x0, V.d x1, V.top, V.top, V.top, V.d x2, V.top, V.top, V.top, V.top, V.top, V.top, V.top, V.top, V.top, V.top, V.top, V.top, V.top, V.top, V.top, V.top, V.top, V.top, V.top, V.top, V.top, V.top, V.top, V.top, V.top, V.top, V.top, V.top, V.top, V.top, V.top, V.top, V.top, V.top, V.top, V.top, V.top, V.top, V.top] [] none)
theorem g3 (a0 a1 : A) : G 3 [a0, a1] =
  (pCells 3 a0).bind fun t0 =>
  ((G 7 [A.agg [cGet t0 0, cGet t0 1, cGet t0 2], vi 1048576]).bind (fin false)).bind fun t1 =>
  (pBin .lss false t1 (vi 0)).bind fun t2 =>
  (pBool t2).bind fun t3 =>
  brn t3 (
    some ((vb true, []))) (
    ((G 8 [a1, t1]).bind (fin false)).bind fun t4 =>
    (pBin .lss false t4 (vi 0)).bind fun t5 =>
    (pBool t5).bind fun t6 =>
    brn t6 (
      some ((vb true, []))) (
      ((G 10 [A.agg [cGet t0 0, cGet t0 1, cGet t0 2]]).bind (fin false)).bind fun t7 =>
      ((G 11 [a1]).bind (fin false)).bind fun t8 =>
      ((G 9 [t7, t8]).bind (fin false)).bind fun t9 =>
      (pTup t9 0).bind fun t10 =>
      (pTup t9 1).bind fun t11 =>
      ((G 10 [A.agg [cGet t0 0, cGet t0 1, cGet t0 2]]).bind (fin false)).bind fun t12 =>
      (pCells 3 t12).bind fun t13 =>
      ((G 11 [a1]).bind (fin false)).bind fun t14 =>
      ((G 12 [A.agg [cGet t13 0, cGet t13 1, cGet t13 2], t14]).bind (fin false)).bind fun t15 =>
      (pTup t15 0).bind fun t16 =>
      (pTup t15 1).bind fun t17 =>
      (pBin .neq false t16 t10).bind fun t18 =>
      (pG t18 false (some t17)).bind fun t19 =>
      (pG t18 false (some t11)).bind fun t20 =>
      (pG t18 false (pBin .neq true t19 t20)).bind fun t21 =>
      (pPick t18 (vb true) t21).bind fun t22 =>
      (pBool t22).bind fun t23 =>
      brn t23 (
        some ((vb false, []))) (
        ((G 10 [A.agg [cGet t0 0, cGet t0 1, cGet t0 2]]).bind (fin false)).bind fun t24 =>
        ((G 13 [A.agg [cGet t13 0, cGet t13 1, cGet t13 2], t24]).bind (fin false)).bind fun t25 =>
        (pUn .not t25).bind fun t26 =>
        (pBool t26).bind fun t27 =>
        brn t27 (
          some ((vb false, []))) (
          ((G 11 [a1]).bind (fin false)).bind fun t28 =>
          ((G 14 [t14, t28]).bind (fin false)).bind fun t29 =>
          (pUn .not t29).bind fun t30 =>
          (pBool t30).bind fun t31 =>
          brn t31 (
            some ((vb false, []))) (
            some ((vb true, []))))))) :=
  (G_eq rfl Tryz.func3 rfl rfl).trans (by kernel_rfl)
theorem g7 (a0 a1 : A) : G 7 [a0, a1] =
  (pCells 3 a0).bind fun t0 =>
  ((G 33 [cGet t0 0, a1]).bind (fin false)).bind fun t1 =>
  (pBin .lss false t1 (vi 0)).bind fun t2 =>
  (pBool t2).bind fun t3 =>
  brn t3 (
    some ((vi (-1), []))) (
    ((G 34 [cGet t0 1, t1]).bind (fin false)).bind fun t4 =>
    (pBin .lss false t4 (vi 0)).bind fun t5 =>
    (pBool t5).bind fun t6 =>
    brn t6 (
      some ((vi (-1), []))) (
      some ((t4, [])))) :=
  (G_eq rfl Tryz.func7 rfl rfl).trans (by kernel_rfl)
theorem g8 (a0 a1 : A) : G 8 [a0, a1] =
  (pLenL a0).bind fun t0 =>
  (pBin .sub false a1 t0).bind fun t1 =>
  (pBin .lss false t1 (vi 0)).bind fun t2 =>
  (pBool t2).bind fun t3 =>
  brn t3 (
    some ((vi (-1), []))) (
    L8_0 a0 t1 (vi 0)) :=
  (G_eq rfl Tryz.func8 rfl rfl).trans (by kernel_rfl)
theorem l8_0 (x0 x1 x2 : A) : L8_0 x0 x1 x2 =
  (pLenL x0).bind fun t4 =>
  (pBin .lss false x2 t4).bind fun t5 =>
  (pBool t5).bind fun t6 =>
  brn t6 (
    (pIndexAddr 2 x0 x2).bind fun t7 =>
    (pLoadN 2 t7).bind fun t8 =>
    ((G 27 [t8, x1]).bind (fin false)).bind fun t9 =>
    (pBin .lss false t9 (vi 0)).bind fun t10 =>
    (pBool t10).bind fun t11 =>
    brn t11 (
      some ((vi (-1), []))) (
      (pBin .add false x2 (vi 1)).bind fun t12 =>
      L8_0 x0 t9 t12)) (
    some ((x1, []))) :=
  (H_eq Tryz.func8 rfl).trans (by kernel_rfl)
theorem g9 (a0 a1 : A) : G 9 [a0, a1] =
  (pCells 3 a0).bind fun t0 =>
  ((G 35 [A.agg [cGet t0 0, cGet t0 1, cGet t0 2]]).bind (fin false)).bind fun t1 =>
  (pUn .not t1).bind fun t2 =>
  (pG t2 false (some a1)).bind fun t3 =>
  (pG t2 false (pLenL t3)).bind fun t4 =>
  (pG t2 false (pBin .gtr false t4 (vi 8))).bind fun t5 =>
  (pPick t2 (vb true) t5).bind fun t6 =>
  (pBool t6).bind fun t7 =>
  brn t7 (
    some ((A.tup [vi 0, vb false], []))) (
    L9_0 a1 (vi 0) (cGet t0 0) (cGet t0 1) (cGet t0 2)) :=
  (G_eq rfl Tryz.func9 rfl rfl).trans (by kernel_rfl)
theorem l9_0 (x0 x1 x2 x3 x4 : A) : L9_0 x0 x1 x2 x3 x4 =
  (pLenL x0).bind fun t8 =>
  (pBin .lss false x1 t8).bind fun t9 =>
  (pBool t9).bind fun t10 =>
  brn t10 (
    (pIndexAddr 2 x0 x1).bind fun t11 =>
    (pLoadN 2 t11).bind fun t12 =>
    ((G 36 [A.agg [x2, x3, x4], t12]).bind (fin false)).bind fun t13 =>
    (pUn .not t13).bind fun t14 =>
    (pBool t14).bind fun t15 =>
    brn t15 (
      some ((A.tup [vi 0, vb false], []))) (
      (pBin .add false x1 (vi 1)).bind fun t16 =>
      L9_0 x0 t16 x2 x3 x4)) (
    L9_1 x0 (vi 0) x2 x3 x4) :=
  (H_eq Tryz.func9 rfl).trans (by kernel_rfl)
theorem l9_1 (x0 x1 x2 x3 x4 : A) : L9_1 x0 x1 x2 x3 x4 =
  (pLenL x0).bind fun t17 =>
  (pBin .lss false x1 t17).bind fun t18 =>
  (pBool t18).bind fun t19 =>
  brn t19 (
    (pIndexAddr 2 x0 x1).bind fun t20 =>
    (pAdd t20 1).bind fun t21 =>
    (pLoadP t21).bind fun t22 =>
    (pIndexAddr 2 t22 (vi 0)).bind fun t23 =>
    (pLoadN 2 t23).bind fun t24 =>
    (pIndexAddr 2 x0 x1).bind fun t25 =>
    (pAdd t25 1).bind fun t26 =>
    (pLoadP t26).bind fun t27 =>
    (pIndexAddr 2 t27 (vi 1)).bind fun t28 =>
    (pLoadN 2 t28).bind fun t29 =>
    ((G 37 [A.agg [x2, x3, x4], t24, t29]).bind (fin false)).bind fun t30 =>
    (pUn .not t30).bind fun t31 =>
    (pBool t31).bind fun t32 =>
    brn t32 (
      some ((A.tup [x1, vb true], []))) (
      (pBin .add false x1 (vi 1)).bind fun t33 =>
      L9_1 x0 t33 x2 x3 x4)) (
    some ((A.tup [vi (-1), vb true], []))) :=
  (H_eq Tryz.func9 rfl).trans (by kernel_rfl)
theorem g10 (a0 : A) : G 10 [a0] =
  (pCells 3 a0).bind fun t0 =>
  ((G 38 [cGet t0 0]).bind (fin false)).bind fun t1 =>
  brn (okA t1) (
    ((G 39 [cGet t0 1]).bind (fin false)).bind fun t2 =>
    brn (okA t2) (
      brn (okA (cGet t0 2)) (
        brn (okA t1) (
          brn (okA t2) (
            brn (okA (cGet t0 2)) (
              some ((A.agg [t1, t2, cGet t0 2], []))) (
              none)) (
            none)) (
          none)) (
        none)) (
      none)) (
    none) :=
  (G_eq rfl Tryz.func10 rfl rfl).trans (by kernel_rfl)
theorem g11 (a0 : A) : G 11 [a0] =
  (pLenL a0).bind fun t0 =>
  (pMake 40 t0 t0).bind fun t1 =>
  L11_0 a0 (vi 0) (rRep t1 [sv [], A.sl 2 []]) :=
  (G_eq rfl Tryz.func11 rfl rfl).trans (by kernel_rfl)
theorem l11_0 (x0 x1 : A) (r0 : List (List A)) : L11_0 x0 x1 r0 =
  (pLenL x0).bind fun t2 =>
  (pBin .lss false x1 t2).bind fun t3 =>
  (pBool t3).bind fun t4 =>
  brn t4 (
    (pIndexAddr 2 x0 x1).bind fun t5 =>
    (pLoadN 2 t5).bind fun t6 =>
    ((G 28 [t6]).bind (fin false)).bind fun t7 =>
    (pIx (rLenN r0) x1).bind fun t8 =>
    (pCells 2 t7).bind fun t9 =>
    (rGet r0 t8).bind fun t10 =>
    (pBin .add false x1 (vi 1)).bind fun t11 =>
    L11_0 x0 t11 (rSet r0 t8 (cOver t10 0 [cGet t9 0, cGet t9 1]))) (
    some ((A.sl 2 r0, []))) :=
  (H_eq Tryz.func11 rfl).trans (by kernel_rfl)
theorem g12 (a0 a1 : A) : G 12 [a0, a1] =
  (pCells 3 a0).bind fun t0 =>
  ((G 40 [A.agg [cGet t0 0, cGet t0 1, cGet t0 2]]).bind (fin false)).bind fun t1 =>
  (pUn .not t1).bind fun t2 =>
  (pG t2 false (some a1)).bind fun t3 =>
  (pG t2 false (pLenL t3)).bind fun t4 =>
  (pG t2 false (pBin .gtr false t4 (vi 8))).bind fun t5 =>
  (pPick t2 (vb true) t5).bind fun t6 =>
  (pBool t6).bind fun t7 =>
  brn t7 (
    some ((A.tup [vi 0, vb false], []))) (
    (pLenL a1).bind fun t8 =>
    L12_0 (vi (-1)) a1 t8 (vi 0) (cGet t0 0) (cGet t0 1) (cGet t0 2)) :=
  (G_eq rfl Tryz.func12 rfl rfl).trans (by kernel_rfl)
theorem l12_0 (x0 x1 x2 x3 x4 x5 x6 : A) : L12_0 x0 x1 x2 x3 x4 x5 x6 =
  (pBin .lss false x3 x2).bind fun t9 =>
  (pBool t9).bind fun t10 =>
  brn t10 (
    (pIndexAddr 2 x1 x3).bind fun t11 =>
    (pLoadN 2 t11).bind fun t12 =>
    (pCells 2 t12).bind fun t13 =>
    ((G 24 [A.agg [x4, x5, x6], A.agg [cGet t13 0, cGet t13 1]]).bind (fin false)).bind fun t14 =>
    (pTup t14 0).bind fun t15 =>
    (pTup t14 1).bind fun t16 =>
    (pTup t14 2).bind fun t17 =>
    (pCells 2 t15).bind fun t18 =>
    (pUn .not t17).bind fun t19 =>
    (pBool t19).bind fun t20 =>
    brn t20 (
      some ((A.tup [vi 0, vb false], []))) (
      (pBin .lss false x0 (vi 0)).bind fun t21 =>
      (pWant t21 true).bind fun t22 =>
      (pWant t21 true).bind fun t23 =>
      (pG t21 true (some (cGet t13 1))).bind fun t24 =>
      (pG t21 true (pIndexAddr 2 t24 (vi 0))).bind fun t25 =>
      (pG t21 true (pLoadN 2 t25)).bind fun t26 =>
      (pWant t21 true).bind fun t27 =>
      (pG t21 true (some (cGet t13 1))).bind fun t28 =>
      (pG t21 true (pIndexAddr 2 t28 (vi 1))).bind fun t29 =>
      (pG t21 true (pLoadN 2 t29)).bind fun t30 =>
      (pG t21 true ((G 41 [A.agg [x4, x5, x6], t26, t30]).bind (fin false))).bind fun t31 =>
      (pG t21 true (pUn .not t31)).bind fun t32 =>
      (pPick t21 t32 (vb false)).bind fun t33 =>
      (pBool t33).bind fun t34 =>
      brn t34 (
        (pBin .add false x3 (vi 1)).bind fun t35 =>
        L12_0 x3 x1 x2 t35 x4 x5 x6) (
        (pBin .add false x3 (vi 1)).bind fun t36 =>
        L12_0 x0 x1 x2 t36 x4 x5 x6))) (
    some ((A.tup [x0, vb true], []))) :=
  (H_eq Tryz.func12 rfl).trans (by kernel_rfl)
theorem g13 (a0 a1 : A) : G 13 [a0, a1] =
  (pCells 3 a0).bind fun t0 =>
  (pCells 3 a1).bind fun t1 =>
  ((G 42 [cGet t0 0, cGet t1 0]).bind (fin false)).bind fun t2 =>
  (pUn .not t2).bind fun t3 =>
  (pBool t3).bind fun t4 =>
  brn t4 (
    some ((vb false, []))) (
    ((G 43 [cGet t0 1, cGet t1 1]).bind (fin false)).bind fun t5 =>
    (pUn .not t5).bind fun t6 =>
    (pBool t6).bind fun t7 =>
    brn t7 (
      some ((vb false, []))) (
      (pBin .neq false (cGet t0 2) (cGet t1 2)).bind fun t8 =>
      (pBool t8).bind fun t9 =>
      brn t9 (
        some ((vb false, []))) (
        some ((vb true, []))))) :=
  (G_eq rfl Tryz.func13 rfl rfl).trans (by kernel_rfl)
theorem g14 (a0 a1 : A) : G 14 [a0, a1] =
  (pLenL a0).bind fun t0 =>
  (pLenL a1).bind fun t1 =>
  (pBin .neq false t0 t1).bind fun t2 =>
  (pBool t2).bind fun t3 =>
  brn t3 (
    some ((vb false, []))) (
    L14_0 a0 a1 (vi 0)) :=
  (G_eq rfl Tryz.func14 rfl rfl).trans (by kernel_rfl)
theorem l14_0 (x0 x1 x2 : A) : L14_0 x0 x1 x2 =
  (pLenL x0).bind fun t4 =>
  (pBin .lss false x2 t4).bind fun t5 =>
  (pBool t5).bind fun t6 =>
  brn t6 (
    (pIndexAddr 2 x0 x2).bind fun t7 =>
    (pLoadN 2 t7).bind fun t8 =>
    (pIndexAddr 2 x1 x2).bind fun t9 =>
    (pLoadN 2 t9).bind fun t10 =>
    ((G 29 [t8, t10]).bind (fin false)).bind fun t11 =>
    (pUn .not t11).bind fun t12 =>
    (pBool t12).bind fun t13 =>
    brn t13 (
      some ((vb false, []))) (
      (pBin .add false x2 (vi 1)).bind fun t14 =>
      L14_0 x0 x1 t14)) (
    some ((vb true, []))) :=
  (H_eq Tryz.func14 rfl).trans (by kernel_rfl)
theorem g18 (a0 a1 a2 : A) : G 18 [a0, a1, a2] =
  (pCells 3 a0).bind fun t0 =>
  (pCells 2 a1).bind fun t1 =>
  (pCells 2 a2).bind fun t2 =>
  brn (okA (cGet t1 0)) (
    brn (okA (cGet t1 1)) (
      brn (okA (cGet t2 0)) (
        brn (okA (cGet t2 1)) (
          ((G 46 [A.agg [cGet t0 0, cGet t0 1, cGet t0 2], A.sl 2 [[cGet t1 0, cGet t1 1], [cGet t2 0, cGet t2 1]]]).bind (fin true)).bind fun t3 =>
          (pUn .not t3).bind fun t4 =>
          (pBool t4).bind fun t5 =>
          brn t5 (
            some ((A.tup [vi 0, vb false], []))) (
            ((G 47 [A.agg [cGet t0 0, cGet t0 1, cGet t0 2], A.agg [cGet t1 0, cGet t1 1], A.agg [cGet t2 0, cGet t2 1]]).bind (fin false)).bind fun t6 =>
            some ((A.tup [t6, vb true], [])))) (
          none)) (
        none)) (
      none)) (
    none) :=
  (G_eq rfl Tryz.func18 rfl rfl).trans (by kernel_rfl)
theorem g19 (a0 a1 a2 : A) : G 19 [a0, a1, a2] =
  (pCells 3 a0).bind fun t0 =>
  (pCells 2 a1).bind fun t1 =>
  (pCells 2 a2).bind fun t2 =>
  ((G 35 [A.agg [cGet t0 0, cGet t0 1, cGet t0 2]]).bind (fin false)).bind fun t3 =>
  (pUn .not t3).bind fun t4 =>
  (pWant t4 false).bind fun t5 =>
  (pWant t4 false).bind fun t6 =>
  (pG t4 false ((G 48 [A.agg [cGet t0 0, cGet t0 1, cGet t0 2], A.agg [cGet t1 0, cGet t1 1]]).bind (fin false))).bind fun t7 =>
  (pG t4 false (pUn .not t7)).bind fun t8 =>
  (pPick t4 (vb true) t8).bind fun t9 =>
  (pWant t9 false).bind fun t10 =>
  (pWant t9 false).bind fun t11 =>
  (pG t9 false ((G 48 [A.agg [cGet t0 0, cGet t0 1, cGet t0 2], A.agg [cGet t2 0, cGet t2 1]]).bind (fin false))).bind fun t12 =>
  (pG t9 false (pUn .not t12)).bind fun t13 =>
  (pPick t9 (vb true) t13).bind fun t14 =>
  (pBool t14).bind fun t15 =>
  brn t15 (
    some ((A.tup [vi 0, vb false], []))) (
    ((G 50 [A.agg [cGet t1 0, cGet t1 1], A.agg [cGet t2 0, cGet t2 1]]).bind (fin false)).bind fun t16 =>
    ((G 37 [A.agg [cGet t0 0, cGet t0 1, cGet t0 2], A.agg [cGet t1 0, cGet t1 1], A.agg [cGet t2 0, cGet t2 1]]).bind (fin false)).bind fun t17 =>
    ((G 37 [A.agg [cGet t0 0, cGet t0 1, cGet t0 2], A.agg [cGet t2 0, cGet t2 1], A.agg [cGet t1 0, cGet t1 1]]).bind (fin false)).bind fun t18 =>
    ((G 49 [t16, t17, t18]).bind (fin false)).bind fun t19 =>
    some ((A.tup [t19, vb true], []))) :=
  (G_eq rfl Tryz.func19 rfl rfl).trans (by kernel_rfl)
theorem g21 (a0 a1 a2 : A) : G 21 [a0, a1, a2] =
  (pCells 3 a0).bind fun t0 =>
  (pCells 2 a1).bind fun t1 =>
  (pCells 2 a2).bind fun t2 =>
  brn (okA (cGet t1 0)) (
    brn (okA (cGet t1 1)) (
      brn (okA (cGet t2 0)) (
        brn (okA (cGet t2 1)) (
          ((G 46 [A.agg [cGet t0 0, cGet t0 1, cGet t0 2], A.sl 2 [[cGet t1 0, cGet t1 1], [cGet t2 0, cGet t2 1]]]).bind (fin true)).bind fun t3 =>
          (pUn .not t3).bind fun t4 =>
          (pBool t4).bind fun t5 =>
          brn t5 (
            some ((A.tup [vi 0, vb false], []))) (
            ((G 52 [A.agg [cGet t1 0, cGet t1 1], A.agg [cGet t2 0, cGet t2 1]]).bind (fin false)).bind fun t6 =>
            ((G 51 [t6, A.fn 53 [A.elt [cGet t0 0, cGet t0 1, cGet t0 2] 0, A.elt [cGet t1 0, cGet t1 1] 0, A.elt [cGet t2 0, cGet t2 1] 0], A.fn 55 [A.elt [cGet t0 0, cGet t0 1, cGet t0 2] 0, A.elt [cGet t2 0, cGet t2 1] 0, A.elt [cGet t1 0, cGet t1 1] 0]]).bind (fin true)).bind fun t7 =>
            some ((A.tup [t7, vb true], [])))) (
          none)) (
        none)) (
      none)) (
    none) :=
  (G_eq rfl Tryz.func21 rfl rfl).trans (by kernel_rfl)
theorem g22 (a0 a1 a2 : A) : G 22 [a0, a1, a2] =
  (pCells 3 a0).bind fun t0 =>
  (pCells 2 a1).bind fun t1 =>
  (pCells 2 a2).bind fun t2 =>
  ((G 35 [A.agg [cGet t0 0, cGet t0 1, cGet t0 2]]).bind (fin false)).bind fun t3 =>
  (pUn .not t3).bind fun t4 =>
  (pWant t4 false).bind fun t5 =>
  (pWant t4 false).bind fun t6 =>
  (pG t4 false ((G 48 [A.agg [cGet t0 0, cGet t0 1, cGet t0 2], A.agg [cGet t1 0, cGet t1 1]]).bind (fin false))).bind fun t7 =>
  (pG t4 false (pUn .not t7)).bind fun t8 =>
  (pPick t4 (vb true) t8).bind fun t9 =>
  (pWant t9 false).bind fun t10 =>
  (pWant t9 false).bind fun t11 =>
  (pG t9 false ((G 48 [A.agg [cGet t0 0, cGet t0 1, cGet t0 2], A.agg [cGet t2 0, cGet t2 1]]).bind (fin false))).bind fun t12 =>
  (pG t9 false (pUn .not t12)).bind fun t13 =>
  (pPick t9 (vb true) t13).bind fun t14 =>
  (pBool t14).bind fun t15 =>
  brn t15 (
    some ((A.tup [vi 0, vb false], []))) (
    ((G 50 [A.agg [cGet t1 0, cGet t1 1], A.agg [cGet t2 0, cGet t2 1]]).bind (fin false)).bind fun t16 =>
    ((G 56 [A.agg [cGet t0 0, cGet t0 1, cGet t0 2], A.agg [cGet t1 0, cGet t1 1], A.agg [cGet t2 0, cGet t2 1]]).bind (fin false)).bind fun t17 =>
    ((G 56 [A.agg [cGet t0 0, cGet t0 1, cGet t0 2], A.agg [cGet t2 0, cGet t2 1], A.agg [cGet t1 0, cGet t1 1]]).bind (fin false)).bind fun t18 =>
    ((G 49 [t16, t17, t18]).bind (fin false)).bind fun t19 =>
    some ((A.tup [t19, vb true], []))) :=
  (G_eq rfl Tryz.func22 rfl rfl).trans (by kernel_rfl)
theorem g24 (a0 a1 : A) : G 24 [a0, a1] =
  (pCells 3 a0).bind fun t0 =>
  (pCells 2 a1).bind fun t1 =>
  ((G 59 [A.agg [cGet t1 0, cGet t1 1]]).bind (fin false)).bind fun t2 =>
  (pUn .not t2).bind fun t3 =>
  (pWant t3 false).bind fun t4 =>
  (pG t3 false ((G 40 [A.agg [cGet t0 0, cGet t0 1, cGet t0 2]]).bind (fin false))).bind fun t5 =>
  (pG t3 false (pUn .not t5)).bind fun t6 =>
  (pPick t3 (vb true) t6).bind fun t7 =>
  (pWant t7 false).bind fun t8 =>
  (pWant t7 false).bind fun t9 =>
  (pG t7 false ((G 60 [A.agg [cGet t0 0, cGet t0 1, cGet t0 2], A.agg [cGet t1 0, cGet t1 1]]).bind (fin false))).bind fun t10 =>
  (pG t7 false (pUn .not t10)).bind fun t11 =>
  (pPick t7 (vb true) t11).bind fun t12 =>
  (pBool t12).bind fun t13 =>
  brn t13 (
    some ((A.tup [A.agg [sv [], A.sl 2 []], vb false, vb false], []))) (
    (C61_0 (cGet t1 0) (cGet t1 1)).bind fun t14 =>
    (hD t14 0).bind fun t15 =>
    (hR 2 t14 1).bind fun t16 =>
    brn (okA t15) (
      (pIndexAddr 2 (cGet t1 1) (vi 0)).bind fun t17 =>
      (pLoadN 2 t17).bind fun t18 =>
      (pIndexAddr 2 (cGet t1 1) (vi 1)).bind fun t19 =>
      (pLoadN 2 t19).bind fun t20 =>
      ((G 47 [A.agg [cGet t0 0, cGet t0 1, cGet t0 2], t18, t20]).bind (fin false)).bind fun t21 =>
      (pBin .eql false t21 (vi 3)).bind fun t22 =>
      (pBool t22).bind fun t23 =>
      brn t23 (
        (pIx (rLenN t16) (vi 1)).bind fun t24 =>
        (pRowN t16 t24 0 2).bind fun t25 =>
        (pIx (rLenN t16) (vi 0)).bind fun t26 =>
        (pRowN t16 t26 0 2).bind fun t27 =>
        (pIx (rLenN t16) (vi 0)).bind fun t28 =>
        (pCells 2 t25).bind fun t29 =>
        (rGet t16 t28).bind fun t30 =>
        (pIx (rLenN (rSet t16 t28 (cOver t30 0 [cGet t29 0, cGet t29 1]))) (vi 1)).bind fun t31 =>
        (pCells 2 t27).bind fun t32 =>
        (rGet (rSet t16 t28 (cOver t30 0 [cGet t29 0, cGet t29 1])) t31).bind fun t33 =>
        (pBin .eql false t21 (vi 3)).bind fun t34 =>
        (pG t34 false (some t21)).bind fun t35 =>
        (pG t34 false (pBin .eql false t35 (vi 2))).bind fun t36 =>
        (pPick t34 (vb true) t36).bind fun t37 =>
        brn (okA t15) (
          some ((A.tup [A.agg [t15, A.sl 2 (rSet (rSet t16 t28 (cOver t30 0 [cGet t29 0, cGet t29 1])) t31 (cOver t33 0 [cGet t32 0, cGet t32 1]))], t37, vb true], []))) (
          none)) (
        (pBin .eql false t21 (vi 3)).bind fun t38 =>
        (pG t38 false (some t21)).bind fun t39 =>
        (pG t38 false (pBin .eql false t39 (vi 2))).bind fun t40 =>
        (pPick t38 (vb true) t40).bind fun t41 =>
        brn (okA t15) (
          some ((A.tup [A.agg [t15, A.sl 2 t16], t41, vb true], []))) (
          none))) (
      none)) :=
  (G_eq rfl Tryz.func24 rfl rfl).trans (by kernel_rfl)
theorem g27 (a0 a1 : A) : G 27 [a0, a1] =
  (pCells 2 a0).bind fun t0 =>
  (pLenS (cGet t0 0)).bind fun t1 =>
  (pBin .sub false a1 t1).bind fun t2 =>
  (pBin .lss false t2 (vi 0)).bind fun t3 =>
  (pBool t3).bind fun t4 =>
  brn t4 (
    some ((vi (-1), []))) (
    ((G 8 [cGet t0 1, t2]).bind (fin false)).bind fun t5 =>
    (pBin .lss false t5 (vi 0)).bind fun t6 =>
    (pBool t6).bind fun t7 =>
    brn t7 (
      some ((vi (-1), []))) (
      some ((t5, [])))) :=
  (G_eq rfl Tryz.func27 rfl rfl).trans (by kernel_rfl)
theorem g28 (a0 : A) : G 28 [a0] =
  (pCells 2 a0).bind fun t0 =>
  brn (okA (cGet t0 0)) (
    ((G 11 [cGet t0 1]).bind (fin false)).bind fun t1 =>
    brn (okA t1) (
      brn (okA (cGet t0 0)) (
        brn (okA t1) (
          some ((A.agg [cGet t0 0, t1], []))) (
          none)) (
        none)) (
      none)) (
    none) :=
  (G_eq rfl Tryz.func28 rfl rfl).trans (by kernel_rfl)
theorem g29 (a0 a1 : A) : G 29 [a0, a1] =
  (pCells 2 a0).bind fun t0 =>
  (pCells 2 a1).bind fun t1 =>
  (pBin .neq false (cGet t0 0) (cGet t1 0)).bind fun t2 =>
  (pBool t2).bind fun t3 =>
  brn t3 (
    some ((vb false, []))) (
    ((G 14 [cGet t0 1, cGet t1 1]).bind (fin false)).bind fun t4 =>
    (pUn .not t4).bind fun t5 =>
    (pBool t5).bind fun t6 =>
    brn t6 (
      some ((vb false, []))) (
      some ((vb true, [])))) :=
  (G_eq rfl Tryz.func29 rfl rfl).trans (by kernel_rfl)
theorem g33 (a0 a1 : A) : G 33 [a0, a1] =
  (pLenL a0).bind fun t0 =>
  (pBin .sub false a1 t0).bind fun t1 =>
  (pBin .lss false t1 (vi 0)).bind fun t2 =>
  (pBool t2).bind fun t3 =>
  brn t3 (
    some ((vi (-1), []))) (
    L33_0 a0 t1 (vi 0)) :=
  (G_eq rfl Tryz.func33 rfl rfl).trans (by kernel_rfl)
theorem l33_0 (x0 x1 x2 : A) : L33_0 x0 x1 x2 =
  (pLenL x0).bind fun t4 =>
  (pBin .lss false x2 t4).bind fun t5 =>
  (pBool t5).bind fun t6 =>
  brn t6 (
    (pIndexAddr 1 x0 x2).bind fun t7 =>
    (pLoadP t7).bind fun t8 =>
    (pLenS t8).bind fun t9 =>
    (pBin .sub false x1 t9).bind fun t10 =>
    (pBin .lss false t10 (vi 0)).bind fun t11 =>
    (pBool t11).bind fun t12 =>
    brn t12 (
      some ((vi (-1), []))) (
      (pBin .add false x2 (vi 1)).bind fun t13 =>
      L33_0 x0 t10 t13)) (
    some ((x1, []))) :=
  (H_eq Tryz.func33 rfl).trans (by kernel_rfl)
theorem g34 (a0 a1 : A) : G 34 [a0, a1] =
  (pLenL a0).bind fun t0 =>
  (pBin .sub false a1 t0).bind fun t1 =>
  (pBin .lss false t1 (vi 0)).bind fun t2 =>
  (pBool t2).bind fun t3 =>
  brn t3 (
    some ((vi (-1), []))) (
    some ((t1, []))) :=
  (G_eq rfl Tryz.func34 rfl rfl).trans (by kernel_rfl)
theorem g35 (a0 : A) : G 35 [a0] =
  (pCells 3 a0).bind fun t0 =>
  (pLenL (cGet t0 0)).bind fun t1 =>
  ((G 67 [t1, vi 1, vi 12]).bind (fin false)).bind fun t2 =>
  (pUn .not t2).bind fun t3 =>
  (pWant t3 false).bind fun t4 =>
  (pG t3 false (some (cGet t0 1))).bind fun t5 =>
  (pG t3 false (pLenL t5)).bind fun t6 =>
  (pWant t3 false).bind fun t7 =>
  (pG t3 false (some (cGet t0 0))).bind fun t8 =>
  (pG t3 false (pLenL t8)).bind fun t9 =>
  (pG t3 false (pBin .neq false t6 t9)).bind fun t10 =>
  (pPick t3 (vb true) t10).bind fun t11 =>
  (pWant t11 false).bind fun t12 =>
  (pG t11 false (some (cGet t0 2))).bind fun t13 =>
  (pG t11 false ((G 67 [t13, vi 1, vi 100]).bind (fin false))).bind fun t14 =>
  (pG t11 false (pUn .not t14)).bind fun t15 =>
  (pPick t11 (vb true) t15).bind fun t16 =>
  (pBool t16).bind fun t17 =>
  brn t17 (
    some ((vb false, []))) (
    L35_0 (vi 0) (cGet t0 0) (cGet t0 1) (cGet t0 2)) :=
  (G_eq rfl Tryz.func35 rfl rfl).trans (by kernel_rfl)
theorem l35_0 (x0 x1 x2 x3 : A) : L35_0 x0 x1 x2 x3 =
  (pLenL x1).bind fun t18 =>
  (pBin .lss false x0 t18).bind fun t19 =>
  (pBool t19).bind fun t20 =>
  brn t20 (
    (pIndexAddr 1 x1 x0).bind fun t21 =>
    (pLoadP t21).bind fun t22 =>
    ((G 68 [t22]).bind (fin false)).bind fun t23 =>
    (pUn .not t23).bind fun t24 =>
    (pWant t24 false).bind fun t25 =>
    (pG t24 false (some x1)).bind fun t26 =>
    (pG t24 false (some x0)).bind fun t27 =>
    (pG t24 false (pSlice 1 t26 none (some t27))).bind fun t28 =>
    (pWant t24 false).bind fun t29 =>
    (pG t24 false (some x1)).bind fun t30 =>
    (pG t24 false (some x0)).bind fun t31 =>
    (pG t24 false (pIndexAddr 1 t30 t31)).bind fun t32 =>
    (pG t24 false (pLoadP t32)).bind fun t33 =>
    (pG t24 false ((G 69 [t28, t33]).bind (fin false))).bind fun t34 =>
    (pPick t24 (vb true) t34).bind fun t35 =>
    (pWant t35 false).bind fun t36 =>
    (pG t35 false (some x2)).bind fun t37 =>
    (pG t35 false (some x0)).bind fun t38 =>
    (pG t35 false (pIndexAddr 1 t37 t38)).bind fun t39 =>
    (pG t35 false (pLoadP t39)).bind fun t40 =>
    (pWant t35 false).bind fun t41 =>
    (pG t35 false (some x3)).bind fun t42 =>
    (pG t35 false ((G 67 [t40, t42, vi 100]).bind (fin false))).bind fun t43 =>
    (pG t35 false (pUn .not t43)).bind fun t44 =>
    (pPick t35 (vb true) t44).bind fun t45 =>
    (pBool t45).bind fun t46 =>
    brn t46 (
      some ((vb false, []))) (
      (pBin .add false x0 (vi 1)).bind fun t47 =>
      L35_0 t47 x1 x2 x3)) (
    some ((vb true, []))) :=
  (H_eq Tryz.func35 rfl).trans (by kernel_rfl)
theorem g36 (a0 a1 : A) : G 36 [a0, a1] =
  (pCells 3 a0).bind fun t0 =>
  (pCells 2 a1).bind fun t1 =>
  (pBin .eql false (cGet t1 0) (sv [61])).bind fun t2 =>
  (pWant t2 true).bind fun t3 =>
  (pG t2 true ((G 70 [A.agg [cGet t1 0, cGet t1 1]]).bind (fin false))).bind fun t4 =>
  (pPick t2 t4 (vb false)).bind fun t5 =>
  (pWant t5 true).bind fun t6 =>
  (pWant t5 true).bind fun t7 =>
  (pG t5 true (some (cGet t1 1))).bind fun t8 =>
  (pG t5 true (pIndexAddr 2 t8 (vi 0))).bind fun t9 =>
  (pG t5 true (pLoadN 2 t9)).bind fun t10 =>
  (pG t5 true ((G 71 [A.agg [cGet t0 0, cGet t0 1, cGet t0 2], t10]).bind (fin false))).bind fun t11 =>
  (pPick t5 t11 (vb false)).bind fun t12 =>
  (pWant t12 true).bind fun t13 =>
  (pWant t12 true).bind fun t14 =>
  (pG t12 true (some (cGet t1 1))).bind fun t15 =>
  (pG t12 true (pIndexAddr 2 t15 (vi 1))).bind fun t16 =>
  (pG t12 true (pLoadN 2 t16)).bind fun t17 =>
  (pG t12 true ((G 71 [A.agg [cGet t0 0, cGet t0 1, cGet t0 2], t17]).bind (fin false))).bind fun t18 =>
  (pPick t12 t18 (vb false)).bind fun t19 =>
  some ((t19, [])) :=
  (G_eq rfl Tryz.func36 rfl rfl).trans (by kernel_rfl)
theorem g37 (a0 a1 a2 : A) : G 37 [a0, a1, a2] =
  (pCells 3 a0).bind fun t0 =>
  (pCells 2 a1).bind fun t1 =>
  (pCells 2 a2).bind fun t2 =>
  ((G 72 [A.agg [cGet t1 0, cGet t1 1], A.agg [cGet t2 0, cGet t2 1]]).bind (fin false)).bind fun t3 =>
  (pUn .not t3).bind fun t4 =>
  (pBool t4).bind fun t5 =>
  brn t5 (
    some ((vb false, []))) (
    ((G 73 [A.agg [cGet t0 0, cGet t0 1, cGet t0 2], A.agg [cGet t1 0, cGet t1 1]]).bind (fin false)).bind fun t6 =>
    ((G 73 [A.agg [cGet t0 0, cGet t0 1, cGet t0 2], A.agg [cGet t2 0, cGet t2 1]]).bind (fin false)).bind fun t7 =>
    (pBin .neq false t6 t7).bind fun t8 =>
    (pBool t8).bind fun t9 =>
    brn t9 (
      (pBin .gtr false t6 t7).bind fun t10 =>
      some ((t10, []))) (
      ((G 74 [cGet t1 0]).bind (fin false)).bind fun t11 =>
      (pWant t11 false).bind fun t12 =>
      (pG t11 false (some (cGet t2 0))).bind fun t13 =>
      (pG t11 false ((G 74 [t13]).bind (fin false))).bind fun t14 =>
      (pPick t11 (vb true) t14).bind fun t15 =>
      (pBool t15).bind fun t16 =>
      brn t16 (
        some ((vb false, []))) (
        ((G 75 [A.agg [cGet t0 0, cGet t0 1, cGet t0 2], A.agg [cGet t1 0, cGet t1 1], A.agg [cGet t2 0, cGet t2 1]]).bind (fin false)).bind fun t17 =>
        (pBin .neq false t17 (vi 0)).bind fun t18 =>
        (pBool t18).bind fun t19 =>
        brn t19 (
          (pBin .gtr false t17 (vi 0)).bind fun t20 =>
          some ((t20, []))) (
          ((G 76 [A.agg [cGet t1 0, cGet t1 1], A.agg [cGet t2 0, cGet t2 1]]).bind (fin false)).bind fun t21 =>
          (pBin .geq false t21 (vi 0)).bind fun t22 =>
          (pWant t22 true).bind fun t23 =>
          (pWant t22 true).bind fun t24 =>
          (pG t22 true (some (cGet t1 1))).bind fun t25 =>
          (pG t22 true (some t21)).bind fun t26 =>
          (pG t22 true (pIndexAddr 2 t25 t26)).bind fun t27 =>
          (pG t22 true (pLoadN 2 t27)).bind fun t28 =>
          (pWant t22 true).bind fun t29 =>
          (pG t22 true (some (cGet t2 1))).bind fun t30 =>
          (pG t22 true (some t21)).bind fun t31 =>
          (pG t22 true (pIndexAddr 2 t30 t31)).bind fun t32 =>
          (pG t22 true (pLoadN 2 t32)).bind fun t33 =>
          (pG t22 true ((G 37 [A.agg [cGet t0 0, cGet t0 1, cGet t0 2], t28, t33]).bind (fin false))).bind fun t34 =>
          (pPick t22 t34 (vb false)).bind fun t35 =>
          some ((t35, [])))))) :=
  (G_eq rfl Tryz.func37 rfl rfl).trans (by kernel_rfl)
theorem g38 (a0 : A) : G 38 [a0] =
  (pLenL a0).bind fun t0 =>
  (pMake 16 t0 t0).bind fun t1 =>
  L38_0 a0 (vi 0) (rRep t1 [sv []]) :=
  (G_eq rfl Tryz.func38 rfl rfl).trans (by kernel_rfl)
theorem l38_0 (x0 x1 : A) (r0 : List (List A)) : L38_0 x0 x1 r0 =
  (pLenL x0).bind fun t2 =>
  (pBin .lss false x1 t2).bind fun t3 =>
  (pBool t3).bind fun t4 =>
  brn t4 (
    (pIndexAddr 1 x0 x1).bind fun t5 =>
    (pLoadP t5).bind fun t6 =>
    (pIx (rLenN r0) x1).bind fun t7 =>
    brn (okA t6) (
      (rGet r0 t7).bind fun t8 =>
      (pBin .add false x1 (vi 1)).bind fun t9 =>
      L38_0 x0 t9 (rSet r0 t7 (cOver t8 0 [t6]))) (
      none)) (
    some ((A.sl 1 r0, []))) :=
  (H_eq Tryz.func38 rfl).trans (by kernel_rfl)
theorem g39 (a0 : A) : G 39 [a0] =
  (pLenL a0).bind fun t0 =>
  (pMake 8 t0 t0).bind fun t1 =>
  L39_0 a0 (vi 0) (rRep t1 [vi 0]) :=
  (G_eq rfl Tryz.func39 rfl rfl).trans (by kernel_rfl)
theorem l39_0 (x0 x1 : A) (r0 : List (List A)) : L39_0 x0 x1 r0 =
  (pLenL x0).bind fun t2 =>
  (pBin .lss false x1 t2).bind fun t3 =>
  (pBool t3).bind fun t4 =>
  brn t4 (
    (pIndexAddr 1 x0 x1).bind fun t5 =>
    (pLoadP t5).bind fun t6 =>
    (pIx (rLenN r0) x1).bind fun t7 =>
    brn (okA t6) (
      (rGet r0 t7).bind fun t8 =>
      (pBin .add false x1 (vi 1)).bind fun t9 =>
      L39_0 x0 t9 (rSet r0 t7 (cOver t8 0 [t6]))) (
      none)) (
    some ((A.sl 1 r0, []))) :=
  (H_eq Tryz.func39 rfl).trans (by kernel_rfl)
theorem g40 (a0 : A) : G 40 [a0] =
  (pCells 3 a0).bind fun t0 =>
  (pLenL (cGet t0 0)).bind fun t1 =>
  ((G 77 [t1, vi 1, vi 12]).bind (fin false)).bind fun t2 =>
  (pUn .not t2).bind fun t3 =>
  (pWant t3 false).bind fun t4 =>
  (pG t3 false (some (cGet t0 1))).bind fun t5 =>
  (pG t3 false (pLenL t5)).bind fun t6 =>
  (pWant t3 false).bind fun t7 =>
  (pG t3 false (some (cGet t0 0))).bind fun t8 =>
  (pG t3 false (pLenL t8)).bind fun t9 =>
  (pG t3 false (pBin .neq false t6 t9)).bind fun t10 =>
  (pPick t3 (vb true) t10).bind fun t11 =>
  (pWant t11 false).bind fun t12 =>
  (pG t11 false (some (cGet t0 2))).bind fun t13 =>
  (pG t11 false ((G 77 [t13, vi 1, vi 100]).bind (fin false))).bind fun t14 =>
  (pG t11 false (pUn .not t14)).bind fun t15 =>
  (pPick t11 (vb true) t15).bind fun t16 =>
  (pBool t16).bind fun t17 =>
  brn t17 (
    some ((vb false, []))) (
    (pLenL (cGet t0 0)).bind fun t18 =>
    L40_0 (cGet t0 0) t18 (vi 0) (cGet t0 0) (cGet t0 1) (cGet t0 2)) :=
  (G_eq rfl Tryz.func40 rfl rfl).trans (by kernel_rfl)
theorem l40_0 (x0 x1 x2 x3 x4 x5 : A) : L40_0 x0 x1 x2 x3 x4 x5 =
  (pBin .lss false x2 x1).bind fun t19 =>
  (pBool t19).bind fun t20 =>
  brn t20 (
    (pIndexAddr 1 x0 x2).bind fun t21 =>
    (pLoadP t21).bind fun t22 =>
    ((G 78 [t22]).bind (fin false)).bind fun t23 =>
    (pUn .not t23).bind fun t24 =>
    (pWant t24 false).bind fun t25 =>
    (pG t24 false (some x3)).bind fun t26 =>
    (pG t24 false (some x2)).bind fun t27 =>
    (pG t24 false (pSlice 1 t26 none (some t27))).bind fun t28 =>
    (pG t24 false (some t22)).bind fun t29 =>
    (pG t24 false ((G 79 [t28, t29]).bind (fin false))).bind fun t30 =>
    (pPick t24 (vb true) t30).bind fun t31 =>
    (pWant t31 false).bind fun t32 =>
    (pG t31 false (some x4)).bind fun t33 =>
    (pG t31 false (some x2)).bind fun t34 =>
    (pG t31 false (pIndexAddr 1 t33 t34)).bind fun t35 =>
    (pG t31 false (pLoadP t35)).bind fun t36 =>
    (pWant t31 false).bind fun t37 =>
    (pG t31 false (some x5)).bind fun t38 =>
    (pG t31 false ((G 77 [t36, t38, vi 100]).bind (fin false))).bind fun t39 =>
    (pG t31 false (pUn .not t39)).bind fun t40 =>
    (pPick t31 (vb true) t40).bind fun t41 =>
    (pBool t41).bind fun t42 =>
    brn t42 (
      some ((vb false, []))) (
      (pBin .add false x2 (vi 1)).bind fun t43 =>
      L40_0 x0 x1 t43 x3 x4 x5)) (
    some ((vb true, []))) :=
  (H_eq Tryz.func40 rfl).trans (by kernel_rfl)
theorem g41 (a0 a1 a2 : A) : G 41 [a0, a1, a2] =
  (pCells 3 a0).bind fun t0 =>
  (pCells 2 a1).bind fun t1 =>
  (pCells 2 a2).bind fun t2 =>
  ((G 80 [A.agg [cGet t2 0, cGet t2 1]]).bind (fin false)).bind fun t3 =>
  (pLenL t3).bind fun t4 =>
  L41_0 t3 t4 (vi 0) (cGet t0 0) (cGet t0 1) (cGet t0 2) (cGet t1 0) (cGet t1 1) (cGet t2 0) (cGet t2 1) :=
  (G_eq rfl Tryz.func41 rfl rfl).trans (by kernel_rfl)
theorem l41_0 (x0 x1 x2 x3 x4 x5 x6 x7 x8 x9 : A) : L41_0 x0 x1 x2 x3 x4 x5 x6 x7 x8 x9 =
  (pBin .lss false x2 x1).bind fun t5 =>
  (pBool t5).bind fun t6 =>
  brn t6 (
    (pIndexAddr 1 x0 x2).bind fun t7 =>
    (pLoadP t7).bind fun t8 =>
    ((G 81 [A.agg [x6, x7], t8]).bind (fin false)).bind fun t9 =>
    ((G 81 [A.agg [x8, x9], t8]).bind (fin false)).bind fun t10 =>
    (pBin .lss false t9 t10).bind fun t11 =>
    (pBool t11).bind fun t12 =>
    brn t12 (
      some ((vb false, []))) (
      (pBin .add false x2 (vi 1)).bind fun t13 =>
      L41_0 x0 x1 t13 x3 x4 x5 x6 x7 x8 x9)) (
    ((G 82 [A.agg [x3, x4, x5], A.agg [x6, x7]]).bind (fin false)).bind fun t14 =>
    ((G 82 [A.agg [x3, x4, x5], A.agg [x8, x9]]).bind (fin false)).bind fun t15 =>
    (pBin .neq false t14 t15).bind fun t16 =>
    (pWant t16 false).bind fun t17 =>
    (pG t16 false ((G 83 [A.agg [x6, x7]]).bind (fin false))).bind fun t18 =>
    (pPick t16 (vb true) t18).bind fun t19 =>
    (pWant t19 false).bind fun t20 =>
    (pG t19 false ((G 83 [A.agg [x8, x9]]).bind (fin false))).bind fun t21 =>
    (pPick t19 (vb true) t21).bind fun t22 =>
    (pBool t22).bind fun t23 =>
    brn t23 (
      (pBin .gtr false t14 t15).bind fun t24 =>
      some ((t24, []))) (
      ((G 84 [A.agg [x3, x4, x5], A.agg [x8, x9], A.agg [x6, x7]]).bind (fin false)).bind fun t25 =>
      (pBool t25).bind fun t26 =>
      brn t26 (
        some ((vb true, []))) (
        ((G 85 [A.agg [x6, x7], A.agg [x8, x9]]).bind (fin false)).bind fun t27 =>
        (pTup t27 0).bind fun t28 =>
        (pTup t27 1).bind fun t29 =>
        (pTup t27 2).bind fun t30 =>
        (pCells 2 t28).bind fun t31 =>
        (pCells 2 t29).bind fun t32 =>
        (pWant t30 true).bind fun t33 =>
        (pWant t30 true).bind fun t34 =>
        (pWant t30 true).bind fun t35 =>
        (pG t30 true ((G 41 [A.agg [x3, x4, x5], A.agg [cGet t31 0, cGet t31 1], A.agg [cGet t32 0, cGet t32 1]]).bind (fin false))).bind fun t36 =>
        (pPick t30 t36 (vb false)).bind fun t37 =>
        some ((t37, []))))) :=
  (H_eq Tryz.func41 rfl).trans (by kernel_rfl)
theorem g42 (a0 a1 : A) : G 42 [a0, a1] =
  (pLenL a0).bind fun t0 =>
  (pLenL a1).bind fun t1 =>
  (pBin .neq false t0 t1).bind fun t2 =>
  (pBool t2).bind fun t3 =>
  brn t3 (
    some ((vb false, []))) (
    L42_0 a0 a1 (vi 0)) :=
  (G_eq rfl Tryz.func42 rfl rfl).trans (by kernel_rfl)
theorem l42_0 (x0 x1 x2 : A) : L42_0 x0 x1 x2 =
  (pLenL x0).bind fun t4 =>
  (pBin .lss false x2 t4).bind fun t5 =>
  (pBool t5).bind fun t6 =>
  brn t6 (
    (pIndexAddr 1 x0 x2).bind fun t7 =>
    (pLoadP t7).bind fun t8 =>
    (pIndexAddr 1 x1 x2).bind fun t9 =>
    (pLoadP t9).bind fun t10 =>
    (pBin .neq false t8 t10).bind fun t11 =>
    (pBool t11).bind fun t12 =>
    brn t12 (
      some ((vb false, []))) (
      (pBin .add false x2 (vi 1)).bind fun t13 =>
      L42_0 x0 x1 t13)) (
    some ((vb true, []))) :=
  (H_eq Tryz.func42 rfl).trans (by kernel_rfl)
theorem g43 (a0 a1 : A) : G 43 [a0, a1] =
  (pLenL a0).bind fun t0 =>
  (pLenL a1).bind fun t1 =>
  (pBin .neq false t0 t1).bind fun t2 =>
  (pBool t2).bind fun t3 =>
  brn t3 (
    some ((vb false, []))) (
    L43_0 a0 a1 (vi 0)) :=
  (G_eq rfl Tryz.func43 rfl rfl).trans (by kernel_rfl)
theorem l43_0 (x0 x1 x2 : A) : L43_0 x0 x1 x2 =
  (pLenL x0).bind fun t4 =>
  (pBin .lss false x2 t4).bind fun t5 =>
  (pBool t5).bind fun t6 =>
  brn t6 (
    (pIndexAddr 1 x0 x2).bind fun t7 =>
    (pLoadP t7).bind fun t8 =>
    (pIndexAddr 1 x1 x2).bind fun t9 =>
    (pLoadP t9).bind fun t10 =>
    (pBin .neq false t8 t10).bind fun t11 =>
    (pBool t11).bind fun t12 =>
    brn t12 (
      some ((vb false, []))) (
      (pBin .add false x2 (vi 1)).bind fun t13 =>
      L43_0 x0 x1 t13)) (
    some ((vb true, []))) :=
  (H_eq Tryz.func43 rfl).trans (by kernel_rfl)
theorem g46 (a0 a1 : A) : G 46 [a0, a1] =
  (pCells 3 a0).bind fun t0 =>
  ((G 40 [A.agg [cGet t0 0, cGet t0 1, cGet t0 2]]).bind (fin false)).bind fun t1 =>
  (pG t1 true (some a1)).bind fun t2 =>
  (pWant t1 true).bind fun t3 =>
  (pG t1 true ((G 91 [t2, A.fn 92 [A.elt [cGet t0 0, cGet t0 1, cGet t0 2] 0]]).bind (fin true))).bind fun t4 =>
  (pG t1 true (pUn .not t4)).bind fun t5 =>
  (pPick t1 t5 (vb false)).bind fun t6 =>
  some ((t6, [])) :=
  (G_eq rfl Tryz.func46 rfl rfl).trans (by kernel_rfl)
theorem g47 (a0 a1 a2 : A) : G 47 [a0, a1, a2] =
  (pCells 3 a0).bind fun t0 =>
  (pCells 2 a1).bind fun t1 =>
  (pCells 2 a2).bind fun t2 =>
  ((G 52 [A.agg [cGet t1 0, cGet t1 1], A.agg [cGet t2 0, cGet t2 1]]).bind (fin false)).bind fun t3 =>
  ((G 51 [t3, A.fn 95 [A.elt [cGet t0 0, cGet t0 1, cGet t0 2] 0, A.elt [cGet t1 0, cGet t1 1] 0, A.elt [cGet t2 0, cGet t2 1] 0], A.fn 96 [A.elt [cGet t0 0, cGet t0 1, cGet t0 2] 0, A.elt [cGet t2 0, cGet t2 1] 0, A.elt [cGet t1 0, cGet t1 1] 0]]).bind (fin true)).bind fun t4 =>
  some ((t4, [])) :=
  (G_eq rfl Tryz.func47 rfl rfl).trans (by kernel_rfl)
theorem g48 (a0 a1 : A) : G 48 [a0, a1] =
  (pCells 3 a0).bind fun t0 =>
  (pCells 2 a1).bind fun t1 =>
  ((G 97 [A.agg [cGet t1 0, cGet t1 1]]).bind (fin false)).bind fun t2 =>
  (pWant t2 true).bind fun t3 =>
  (pWant t2 true).bind fun t4 =>
  (pG t2 true ((G 71 [A.agg [cGet t0 0, cGet t0 1, cGet t0 2], A.agg [cGet t1 0, cGet t1 1]]).bind (fin false))).bind fun t5 =>
  (pPick t2 t5 (vb false)).bind fun t6 =>
  some ((t6, [])) :=
  (G_eq rfl Tryz.func48 rfl rfl).trans (by kernel_rfl)
theorem g49 (a0 a1 a2 : A) : G 49 [a0, a1, a2] =
  (pBool a0).bind fun t0 =>
  brn t0 (
    some ((vi 1, []))) (
    (pBool a1).bind fun t1 =>
    brn t1 (
      some ((vi 2, []))) (
      (pBool a2).bind fun t2 =>
      brn t2 (
        some ((vi 3, []))) (
        some ((vi 0, []))))) :=
  (G_eq rfl Tryz.func49 rfl rfl).trans (by kernel_rfl)
theorem g50 (a0 a1 : A) : G 50 [a0, a1] =
  (pCells 2 a0).bind fun t0 =>
  (pCells 2 a1).bind fun t1 =>
  (pBin .neq false (cGet t0 0) (cGet t1 0)).bind fun t2 =>
  (pWant t2 false).bind fun t3 =>
  (pG t2 false (some (cGet t0 1))).bind fun t4 =>
  (pG t2 false (pLenL t4)).bind fun t5 =>
  (pWant t2 false).bind fun t6 =>
  (pG t2 false (some (cGet t1 1))).bind fun t7 =>
  (pG t2 false (pLenL t7)).bind fun t8 =>
  (pG t2 false (pBin .neq false t5 t8)).bind fun t9 =>
  (pPick t2 (vb true) t9).bind fun t10 =>
  (pBool t10).bind fun t11 =>
  brn t11 (
    some ((vb false, []))) (
    L50_0 (vi 0) (cGet t0 0) (cGet t0 1) (cGet t1 0) (cGet t1 1)) :=
  (G_eq rfl Tryz.func50 rfl rfl).trans (by kernel_rfl)
theorem l50_0 (x0 x1 x2 x3 x4 : A) : L50_0 x0 x1 x2 x3 x4 =
  (pLenL x2).bind fun t12 =>
  (pBin .lss false x0 t12).bind fun t13 =>
  (pBool t13).bind fun t14 =>
  brn t14 (
    (pIndexAddr 2 x2 x0).bind fun t15 =>
    (pLoadN 2 t15).bind fun t16 =>
    (pIndexAddr 2 x4 x0).bind fun t17 =>
    (pLoadN 2 t17).bind fun t18 =>
    ((G 50 [t16, t18]).bind (fin false)).bind fun t19 =>
    (pUn .not t19).bind fun t20 =>
    (pBool t20).bind fun t21 =>
    brn t21 (
      some ((vb false, []))) (
      (pBin .add false x0 (vi 1)).bind fun t22 =>
      L50_0 t22 x1 x2 x3 x4)) (
    some ((vb true, []))) :=
  (H_eq Tryz.func50 rfl).trans (by kernel_rfl)
theorem g51 (a0 a1 a2 : A) : G 51 [a0, a1, a2] =
  (pBool a0).bind fun t0 =>
  brn t0 (
    some ((vi 1, []))) (
    (DX.run K (MM K) (.callc a1 [] false)).bind fun t1 =>
    (pBool t1).bind fun t2 =>
    brn t2 (
      some ((vi 2, []))) (
      (DX.run K (MM K) (.callc a2 [] false)).bind fun t3 =>
      (pBool t3).bind fun t4 =>
      brn t4 (
        some ((vi 3, []))) (
        some ((vi 0, []))))) :=
  (G_eq rfl Tryz.func51 rfl rfl).trans (by kernel_rfl)
theorem g52 (a0 a1 : A) : G 52 [a0, a1] =
  (pCells 2 a0).bind fun t0 =>
  (pCells 2 a1).bind fun t1 =>
  (pBin .eql false (cGet t0 0) (cGet t1 0)).bind fun t2 =>
  (pWant t2 true).bind fun t3 =>
  (pG t2 true (some (cGet t0 1))).bind fun t4 =>
  (pWant t2 true).bind fun t5 =>
  (pG t2 true (some (cGet t1 1))).bind fun t6 =>
  (pG t2 true ((G 98 [t4, t6, A.fn 52 []]).bind (fin false))).bind fun t7 =>
  (pPick t2 t7 (vb false)).bind fun t8 =>
  some ((t8, [])) :=
  (G_eq rfl Tryz.func52 rfl rfl).trans (by kernel_rfl)
theorem g53 (a0 a1 a2 : A) : G 53 [a0, a1, a2] =
  (pLoadN 3 a0).bind fun t0 =>
  (pLoadN 2 a1).bind fun t1 =>
  (pLoadN 2 a2).bind fun t2 =>
  ((G 54 [t0, t1, t2]).bind (fin false)).bind fun t3 =>
  some ((t3, [])) :=
  (G_eq rfl Tryz.func53 rfl rfl).trans (by kernel_rfl)
theorem g54 (a0 a1 a2 : A) : G 54 [a0, a1, a2] =
  (pCells 3 a0).bind fun t0 =>
  (pCells 2 a1).bind fun t1 =>
  (pCells 2 a2).bind fun t2 =>
  ((G 83 [A.agg [cGet t1 0, cGet t1 1]]).bind (fin false)).bind fun t3 =>
  (pBool t3).bind fun t4 =>
  brn t4 (
    some ((vb false, []))) (
    ((G 91 [cGet t1 1, A.fn 99 [A.elt [cGet t2 0, cGet t2 1] 0, A.elt [cGet t0 0, cGet t0 1, cGet t0 2] 0]]).bind (fin true)).bind fun t5 =>
    (pBool t5).bind fun t6 =>
    brn t6 (
      some ((vb true, []))) (
      ((G 83 [A.agg [cGet t2 0, cGet t2 1]]).bind (fin false)).bind fun t7 =>
      (pWant t7 false).bind fun t8 =>
      (pG t7 false (some (cGet t2 1))).bind fun t9 =>
      (pWant t7 false).bind fun t10 =>
      (pG t7 false ((G 91 [t9, A.fn 100 [A.elt [cGet t0 0, cGet t0 1, cGet t0 2] 0, A.elt [cGet t1 0, cGet t1 1] 0]]).bind (fin true))).bind fun t11 =>
      (pPick t7 (vb true) t11).bind fun t12 =>
      (pBool t12).bind fun t13 =>
      brn t13 (
        some ((vb false, []))) (
        ((G 84 [A.agg [cGet t0 0, cGet t0 1, cGet t0 2], A.agg [cGet t2 0, cGet t2 1], A.agg [cGet t1 0, cGet t1 1]]).bind (fin false)).bind fun t14 =>
        (pBool t14).bind fun t15 =>
        brn t15 (
          some ((vb true, []))) (
          ((G 85 [A.agg [cGet t1 0, cGet t1 1], A.agg [cGet t2 0, cGet t2 1]]).bind (fin false)).bind fun t16 =>
          (pTup t16 0).bind fun t17 =>
          (pTup t16 1).bind fun t18 =>
          (pTup t16 2).bind fun t19 =>
          (pCells 2 t17).bind fun t20 =>
          (pCells 2 t18).bind fun t21 =>
          (pWant t19 true).bind fun t22 =>
          (pWant t19 true).bind fun t23 =>
          (pWant t19 true).bind fun t24 =>
          (pG t19 true ((G 54 [A.agg [cGet t0 0, cGet t0 1, cGet t0 2], A.agg [cGet t20 0, cGet t20 1], A.agg [cGet t21 0, cGet t21 1]]).bind (fin false))).bind fun t25 =>
          (pPick t19 t25 (vb false)).bind fun t26 =>
          some ((t26, [])))))) :=
  (G_eq rfl Tryz.func54 rfl rfl).trans (by kernel_rfl)
theorem g55 (a0 a1 a2 : A) : G 55 [a0, a1, a2] =
  (pLoadN 3 a0).bind fun t0 =>
  (pLoadN 2 a1).bind fun t1 =>
  (pLoadN 2 a2).bind fun t2 =>
  ((G 54 [t0, t1, t2]).bind (fin false)).bind fun t3 =>
  some ((t3, [])) :=
  (G_eq rfl Tryz.func55 rfl rfl).trans (by kernel_rfl)
theorem g56 (a0 a1 a2 : A) : G 56 [a0, a1, a2] =
  (pCells 3 a0).bind fun t0 =>
  (pCells 2 a1).bind fun t1 =>
  (pCells 2 a2).bind fun t2 =>
  ((G 74 [cGet t1 0]).bind (fin false)).bind fun t3 =>
  (pBool t3).bind fun t4 =>
  brn t4 (
    some ((vb false, []))) (
    L56_0 (vi 0) (cGet t0 0) (cGet t0 1) (cGet t0 2) (cGet t1 0) (cGet t1 1) (cGet t2 0) (cGet t2 1)) :=
  (G_eq rfl Tryz.func56 rfl rfl).trans (by kernel_rfl)
theorem l56_0 (x0 x1 x2 x3 x4 x5 x6 x7 : A) : L56_0 x0 x1 x2 x3 x4 x5 x6 x7 =
  (pLenL x5).bind fun t5 =>
  (pBin .lss false x0 t5).bind fun t6 =>
  (pBool t6).bind fun t7 =>
  brn t7 (
    (pIndexAddr 2 x5 x0).bind fun t8 =>
    (pLoadN 2 t8).bind fun t9 =>
    ((G 50 [t9, A.agg [x6, x7]]).bind (fin false)).bind fun t10 =>
    (pWant t10 false).bind fun t11 =>
    (pWant t10 false).bind fun t12 =>
    (pG t10 false (some x5)).bind fun t13 =>
    (pG t10 false (some x0)).bind fun t14 =>
    (pG t10 false (pIndexAddr 2 t13 t14)).bind fun t15 =>
    (pG t10 false (pLoadN 2 t15)).bind fun t16 =>
    (pWant t10 false).bind fun t17 =>
    (pG t10 false ((G 56 [A.agg [x1, x2, x3], t16, A.agg [x6, x7]]).bind (fin false))).bind fun t18 =>
    (pPick t10 (vb true) t18).bind fun t19 =>
    (pBool t19).bind fun t20 =>
    brn t20 (
      some ((vb true, []))) (
      (pBin .add false x0 (vi 1)).bind fun t21 =>
      L56_0 t21 x1 x2 x3 x4 x5 x6 x7)) (
    ((G 74 [x6]).bind (fin false)).bind fun t22 =>
    (pBool t22).bind fun t23 =>
    brn t23 (
      some ((vb false, []))) (
      ((G 75 [A.agg [x1, x2, x3], A.agg [x4, x5], A.agg [x6, x7]]).bind (fin false)).bind fun t24 =>
      (pBin .lss false t24 (vi 0)).bind fun t25 =>
      (pBool t25).bind fun t26 =>
      brn t26 (
        some ((vb false, []))) (
        L56_1 t24 (vi 0) x1 x2 x3 x4 x5 x6 x7))) :=
  (H_eq Tryz.func56 rfl).trans (by kernel_rfl)
theorem l56_1 (x0 x1 x2 x3 x4 x5 x6 x7 x8 : A) : L56_1 x0 x1 x2 x3 x4 x5 x6 x7 x8 =
  (pLenL x8).bind fun t27 =>
  (pBin .lss false x1 t27).bind fun t28 =>
  (pBool t28).bind fun t29 =>
  brn t29 (
    (pIndexAddr 2 x8 x1).bind fun t30 =>
    (pLoadN 2 t30).bind fun t31 =>
    ((G 56 [A.agg [x2, x3, x4], A.agg [x5, x6], t31]).bind (fin false)).bind fun t32 =>
    (pUn .not t32).bind fun t33 =>
    (pBool t33).bind fun t34 =>
    brn t34 (
      some ((vb false, []))) (
      (pBin .add false x1 (vi 1)).bind fun t35 =>
      L56_1 x0 t35 x2 x3 x4 x5 x6 x7 x8)) (
    (pBin .gtr false x0 (vi 0)).bind fun t36 =>
    (pBool t36).bind fun t37 =>
    brn t37 (
      some ((vb true, []))) (
      ((G 76 [A.agg [x5, x6], A.agg [x7, x8]]).bind (fin false)).bind fun t38 =>
      (pBin .geq false t38 (vi 0)).bind fun t39 =>
      (pWant t39 true).bind fun t40 =>
      (pWant t39 true).bind fun t41 =>
      (pG t39 true (some x6)).bind fun t42 =>
      (pG t39 true (some t38)).bind fun t43 =>
      (pG t39 true (pIndexAddr 2 t42 t43)).bind fun t44 =>
      (pG t39 true (pLoadN 2 t44)).bind fun t45 =>
      (pWant t39 true).bind fun t46 =>
      (pG t39 true (some x8)).bind fun t47 =>
      (pG t39 true (some t38)).bind fun t48 =>
      (pG t39 true (pIndexAddr 2 t47 t48)).bind fun t49 =>
      (pG t39 true (pLoadN 2 t49)).bind fun t50 =>
      (pG t39 true ((G 56 [A.agg [x2, x3, x4], t45, t50]).bind (fin false))).bind fun t51 =>
      (pPick t39 t51 (vb false)).bind fun t52 =>
      some ((t52, [])))) :=
  (H_eq Tryz.func56 rfl).trans (by kernel_rfl)
theorem g59 (a0 : A) : G 59 [a0] =
  (pCells 2 a0).bind fun t0 =>
  (pBin .eql false (cGet t0 0) (sv [61])).bind fun t1 =>
  some ((t1, [])) :=
  (G_eq rfl Tryz.func59 rfl rfl).trans (by kernel_rfl)
theorem g60 (a0 a1 : A) : G 60 [a0, a1] =
  (pCells 3 a0).bind fun t0 =>
  (pCells 2 a1).bind fun t1 =>
  ((G 102 [A.agg [cGet t1 0, cGet t1 1]]).bind (fin false)).bind fun t2 =>
  (pUn .not t2).bind fun t3 =>
  (pBool t3).bind fun t4 =>
  brn t4 (
    some ((vb false, []))) (
    ((G 59 [A.agg [cGet t1 0, cGet t1 1]]).bind (fin false)).bind fun t5 =>
    (pBool t5).bind fun t6 =>
    brn t6 (
      (pIndexAddr 2 (cGet t1 1) (vi 0)).bind fun t7 =>
      (pLoadN 2 t7).bind fun t8 =>
      ((G 94 [A.agg [cGet t0 0, cGet t0 1, cGet t0 2], t8]).bind (fin false)).bind fun t9 =>
      (pWant t9 true).bind fun t10 =>
      (pWant t9 true).bind fun t11 =>
      (pG t9 true (some (cGet t1 1))).bind fun t12 =>
      (pG t9 true (pIndexAddr 2 t12 (vi 1))).bind fun t13 =>
      (pG t9 true (pLoadN 2 t13)).bind fun t14 =>
      (pG t9 true ((G 94 [A.agg [cGet t0 0, cGet t0 1, cGet t0 2], t14]).bind (fin false))).bind fun t15 =>
      (pPick t9 t15 (vb false)).bind fun t16 =>
      some ((t16, []))) (
      ((G 94 [A.agg [cGet t0 0, cGet t0 1, cGet t0 2], A.agg [cGet t1 0, cGet t1 1]]).bind (fin false)).bind fun t17 =>
      some ((t17, [])))) :=
  (G_eq rfl Tryz.func60 rfl rfl).trans (by kernel_rfl)
theorem c61_0 (x0 x1 : A) : C61_0 x0 x1 =
  brn (okA x0) (
    brn (okA x1) (
      (C103_0 x1).bind fun t0 =>
      (hR 2 t0 0).bind fun t1 =>
      brn (okA x0) (
        brn (okA x0) (
          some ((A.top, [x0, A.sl 2 t1]))) (
          none)) (
        none)) (
      none)) (
    none) :=
  (V_eq rfl Tryz.func61 rfl rfl).trans (by kernel_rfl)
theorem g67 (a0 a1 a2 : A) : G 67 [a0, a1, a2] =
  (pBin .geq false a0 a1).bind fun t0 =>
  (pG t0 true (some a0)).bind fun t1 =>
  (pG t0 true (some a2)).bind fun t2 =>
  (pG t0 true (pBin .leq false t1 t2)).bind fun t3 =>
  (pPick t0 t3 (vb false)).bind fun t4 =>
  some ((t4, [])) :=
  (G_eq rfl Tryz.func67 rfl rfl).trans (by kernel_rfl)
theorem g68 (a0 : A) : G 68 [a0] =
  (pLenS a0).bind fun t0 =>
  ((G 67 [t0, vi 1, vi 6]).bind (fin false)).bind fun t1 =>
  (pUn .not t1).bind fun t2 =>
  (pG t2 false (some a0)).bind fun t3 =>
  (pG t2 false (pIndexS t3 (vi 0))).bind fun t4 =>
  (pG t2 false (pBin .lss false t4 (vy 97))).bind fun t5 =>
  (pPick t2 (vb true) t5).bind fun t6 =>
  (pG t6 false (some a0)).bind fun t7 =>
  (pG t6 false (pIndexS t7 (vi 0))).bind fun t8 =>
  (pG t6 false (pBin .gtr false t8 (vy 122))).bind fun t9 =>
  (pPick t6 (vb true) t9).bind fun t10 =>
  (pBool t10).bind fun t11 =>
  brn t11 (
    some ((vb false, []))) (
    (pBin .eql false a0 (sv [116, 114, 117, 101])).bind fun t12 =>
    (pBool t12).bind fun t13 =>
    brn t13 (
      (pBool t12).bind fun t14 =>
      brn t14 (
        some ((vb false, []))) (
        L68_0 a0 (vi 1))) (
      (pBin .eql false a0 (sv [102, 97, 108, 115, 101])).bind fun t15 =>
      (pBool t15).bind fun t16 =>
      brn t16 (
        (pBool t15).bind fun t17 =>
        brn t17 (
          some ((vb false, []))) (
          L68_0 a0 (vi 1))) (
        (pBin .eql false a0 (sv [116, 114, 117, 116, 104])).bind fun t18 =>
        (pBool t18).bind fun t19 =>
        brn t19 (
          (pBool t18).bind fun t20 =>
          brn t20 (
            some ((vb false, []))) (
            L68_0 a0 (vi 1))) (
          (pBin .eql false a0 (sv [98, 111, 116, 104])).bind fun t21 =>
          (pBool t21).bind fun t22 =>
          brn t22 (
            (pBool t21).bind fun t23 =>
            brn t23 (
              some ((vb false, []))) (
              L68_0 a0 (vi 1))) (
            (pBin .eql false a0 (sv [101, 105, 116, 104, 101, 114])).bind fun t24 =>
            (pBool t24).bind fun t25 =>
            brn t25 (
              (pBool t24).bind fun t26 =>
              brn t26 (
                some ((vb false, []))) (
                L68_0 a0 (vi 1))) (
              (pBin .eql false a0 (sv [105, 102])).bind fun t27 =>
              (pBool t27).bind fun t28 =>
              brn t28 (
                (pBool t27).bind fun t29 =>
                brn t29 (
                  some ((vb false, []))) (
                  L68_0 a0 (vi 1))) (
                (pBin .eql false a0 (sv [97, 108, 108])).bind fun t30 =>
                (pBool t30).bind fun t31 =>
                brn t31 (
                  (pBool t30).bind fun t32 =>
                  brn t32 (
                    some ((vb false, []))) (
                    L68_0 a0 (vi 1))) (
                  (pBin .eql false a0 (sv [115, 111, 109, 101])).bind fun t33 =>
                  (pBool t33).bind fun t34 =>
                  brn t34 (
                    some ((vb false, []))) (
                    L68_0 a0 (vi 1)))))))))) :=
  (G_eq rfl Tryz.func68 rfl rfl).trans (by kernel_rfl)
theorem l68_0 (x0 x1 : A) : L68_0 x0 x1 =
  (pLenS x0).bind fun t35 =>
  (pBin .lss false x1 t35).bind fun t36 =>
  (pBool t36).bind fun t37 =>
  brn t37 (
    (pIndexS x0 x1).bind fun t38 =>
    ((G 105 [t38]).bind (fin false)).bind fun t39 =>
    (pUn .not t39).bind fun t40 =>
    (pG t40 true (some x0)).bind fun t41 =>
    (pG t40 true (some x1)).bind fun t42 =>
    (pG t40 true (pIndexS t41 t42)).bind fun t43 =>
    (pG t40 true (pBin .neq false t43 (vy 95))).bind fun t44 =>
    (pPick t40 t44 (vb false)).bind fun t45 =>
    (pBool t45).bind fun t46 =>
    brn t46 (
      some ((vb false, []))) (
      (pBin .add false x1 (vi 1)).bind fun t47 =>
      L68_0 x0 t47)) (
    some ((vb true, []))) :=
  (H_eq Tryz.func68 rfl).trans (by kernel_rfl)
theorem g69 (a0 a1 : A) : G 69 [a0, a1] =
  L69_0 a0 a1 (vi 0) :=
  (G_eq rfl Tryz.func69 rfl rfl).trans (by kernel_rfl)
theorem l69_0 (x0 x1 x2 : A) : L69_0 x0 x1 x2 =
  (pLenL x0).bind fun t0 =>
  (pBin .lss false x2 t0).bind fun t1 =>
  (pBool t1).bind fun t2 =>
  brn t2 (
    (pIndexAddr 1 x0 x2).bind fun t3 =>
    (pLoadP t3).bind fun t4 =>
    (pBin .eql false t4 x1).bind fun t5 =>
    (pBool t5).bind fun t6 =>
    brn t6 (
      some ((vb true, []))) (
      (pBin .add false x2 (vi 1)).bind fun t7 =>
      L69_0 x0 x1 t7)) (
    some ((vb false, []))) :=
  (H_eq Tryz.func69 rfl).trans (by kernel_rfl)
theorem g70 (a0 : A) : G 70 [a0] =
  (pCells 2 a0).bind fun t0 =>
  (pBin .eql false (cGet t0 0) (sv [61])).bind fun t1 =>
  (pBool t1).bind fun t2 =>
  brn t2 (
    (pLenL (cGet t0 1)).bind fun t3 =>
    (pBin .eql false t3 (vi 2)).bind fun t4 =>
    (pWant t4 true).bind fun t5 =>
    (pG t4 true ((G 106 [A.agg [cGet t0 0, cGet t0 1]]).bind (fin false))).bind fun t6 =>
    (pPick t4 t6 (vb false)).bind fun t7 =>
    (pWant t7 true).bind fun t8 =>
    (pG t7 true (some (cGet t0 1))).bind fun t9 =>
    (pG t7 true (pIndexAddr 2 t9 (vi 0))).bind fun t10 =>
    (pG t7 true (pLoadN 2 t10)).bind fun t11 =>
    (pG t7 true ((G 107 [t11]).bind (fin false))).bind fun t12 =>
    (pPick t7 t12 (vb false)).bind fun t13 =>
    (pWant t13 true).bind fun t14 =>
    (pG t13 true (some (cGet t0 1))).bind fun t15 =>
    (pG t13 true (pIndexAddr 2 t15 (vi 1))).bind fun t16 =>
    (pG t13 true (pLoadN 2 t16)).bind fun t17 =>
    (pG t13 true ((G 107 [t17]).bind (fin false))).bind fun t18 =>
    (pPick t13 t18 (vb false)).bind fun t19 =>
    some ((t19, []))) (
    ((G 68 [cGet t0 0]).bind (fin false)).bind fun t20 =>
    (pWant t20 true).bind fun t21 =>
    (pG t20 true ((G 97 [A.agg [cGet t0 0, cGet t0 1]]).bind (fin false))).bind fun t22 =>
    (pPick t20 t22 (vb false)).bind fun t23 =>
    some ((t23, []))) :=
  (G_eq rfl Tryz.func70 rfl rfl).trans (by kernel_rfl)
theorem g71 (a0 a1 : A) : G 71 [a0, a1] =
  (pCells 3 a0).bind fun t0 =>
  (pCells 2 a1).bind fun t1 =>
  ((G 74 [cGet t1 0]).bind (fin false)).bind fun t2 =>
  (pUn .not t2).bind fun t3 =>
  (pWant t3 true).bind fun t4 =>
  (pWant t3 true).bind fun t5 =>
  (pG t3 true (some (cGet t1 0))).bind fun t6 =>
  (pG t3 true ((G 108 [A.agg [cGet t0 0, cGet t0 1, cGet t0 2], t6]).bind (fin false))).bind fun t7 =>
  (pG t3 true (pBin .lss false t7 (vi 0))).bind fun t8 =>
  (pPick t3 t8 (vb false)).bind fun t9 =>
  (pBool t9).bind fun t10 =>
  brn t10 (
    some ((vb false, []))) (
    L71_0 (vi 0) (cGet t0 0) (cGet t0 1) (cGet t0 2) (cGet t1 0) (cGet t1 1)) :=
  (G_eq rfl Tryz.func71 rfl rfl).trans (by kernel_rfl)
theorem l71_0 (x0 x1 x2 x3 x4 x5 : A) : L71_0 x0 x1 x2 x3 x4 x5 =
  (pLenL x5).bind fun t11 =>
  (pBin .lss false x0 t11).bind fun t12 =>
  (pBool t12).bind fun t13 =>
  brn t13 (
    (pIndexAddr 2 x5 x0).bind fun t14 =>
    (pLoadN 2 t14).bind fun t15 =>
    ((G 71 [A.agg [x1, x2, x3], t15]).bind (fin false)).bind fun t16 =>
    (pUn .not t16).bind fun t17 =>
    (pBool t17).bind fun t18 =>
    brn t18 (
      some ((vb false, []))) (
      (pBin .add false x0 (vi 1)).bind fun t19 =>
      L71_0 t19 x1 x2 x3 x4 x5)) (
    some ((vb true, []))) :=
  (H_eq Tryz.func71 rfl).trans (by kernel_rfl)
theorem g72 (a0 a1 : A) : G 72 [a0, a1] =
  (pCells 2 a0).bind fun t0 =>
  (pCells 2 a1).bind fun t1 =>
  ((G 109 [A.agg [cGet t1 0, cGet t1 1]]).bind (fin false)).bind fun t2 =>
  L72_0 t2 (vi 0) (cGet t0 0) (cGet t0 1) (cGet t1 0) (cGet t1 1) :=
  (G_eq rfl Tryz.func72 rfl rfl).trans (by kernel_rfl)
theorem l72_0 (x0 x1 x2 x3 x4 x5 : A) : L72_0 x0 x1 x2 x3 x4 x5 =
  (pLenL x0).bind fun t3 =>
  (pBin .lss false x1 t3).bind fun t4 =>
  (pBool t4).bind fun t5 =>
  brn t5 (
    (pIndexAddr 1 x0 x1).bind fun t6 =>
    (pLoadP t6).bind fun t7 =>
    ((G 110 [A.agg [x2, x3], t7]).bind (fin false)).bind fun t8 =>
    (pIndexAddr 1 x0 x1).bind fun t9 =>
    (pLoadP t9).bind fun t10 =>
    ((G 110 [A.agg [x4, x5], t10]).bind (fin false)).bind fun t11 =>
    (pBin .lss false t8 t11).bind fun t12 =>
    (pBool t12).bind fun t13 =>
    brn t13 (
      some ((vb false, []))) (
      (pBin .add false x1 (vi 1)).bind fun t14 =>
      L72_0 x0 t14 x2 x3 x4 x5)) (
    some ((vb true, []))) :=
  (H_eq Tryz.func72 rfl).trans (by kernel_rfl)
theorem g73 (a0 a1 : A) : G 73 [a0, a1] =
  (pCells 3 a0).bind fun t0 =>
  (pCells 2 a1).bind fun t1 =>
  ((G 74 [cGet t1 0]).bind (fin false)).bind fun t2 =>
  (pUn .not t2).bind fun t3 =>
  (pBool t3).bind fun t4 =>
  brn t4 (
    ((G 108 [A.agg [cGet t0 0, cGet t0 1, cGet t0 2], cGet t1 0]).bind (fin false)).bind fun t5 =>
    (pIndexAddr 1 (cGet t0 1) t5).bind fun t6 =>
    (pLoadP t6).bind fun t7 =>
    L73_0 t7 (vi 0) (cGet t0 0) (cGet t0 1) (cGet t0 2) (cGet t1 0) (cGet t1 1)) (
    L73_0 (cGet t0 2) (vi 0) (cGet t0 0) (cGet t0 1) (cGet t0 2) (cGet t1 0) (cGet t1 1)) :=
  (G_eq rfl Tryz.func73 rfl rfl).trans (by kernel_rfl)
theorem l73_0 (x0 x1 x2 x3 x4 x5 x6 : A) : L73_0 x0 x1 x2 x3 x4 x5 x6 =
  (pLenL x6).bind fun t8 =>
  (pBin .lss false x1 t8).bind fun t9 =>
  (pBool t9).bind fun t10 =>
  brn t10 (
    (pIndexAddr 2 x6 x1).bind fun t11 =>
    (pLoadN 2 t11).bind fun t12 =>
    ((G 73 [A.agg [x2, x3, x4], t12]).bind (fin false)).bind fun t13 =>
    (pBin .add false x0 t13).bind fun t14 =>
    (pBin .add false x1 (vi 1)).bind fun t15 =>
    L73_0 t14 t15 x2 x3 x4 x5 x6) (
    some ((x0, []))) :=
  (H_eq Tryz.func73 rfl).trans (by kernel_rfl)
theorem g74 (a0 : A) : G 74 [a0] =
  (pLenS a0).bind fun t0 =>
  ((G 67 [t0, vi 1, vi 4]).bind (fin false)).bind fun t1 =>
  (pUn .not t1).bind fun t2 =>
  (pG t2 false (some a0)).bind fun t3 =>
  (pG t2 false (pIndexS t3 (vi 0))).bind fun t4 =>
  (pG t2 false (pBin .lss false t4 (vy 65))).bind fun t5 =>
  (pPick t2 (vb true) t5).bind fun t6 =>
  (pG t6 false (some a0)).bind fun t7 =>
  (pG t6 false (pIndexS t7 (vi 0))).bind fun t8 =>
  (pG t6 false (pBin .gtr false t8 (vy 90))).bind fun t9 =>
  (pPick t6 (vb true) t9).bind fun t10 =>
  (pBool t10).bind fun t11 =>
  brn t11 (
    some ((vb false, []))) (
    L74_0 a0 (vi 1)) :=
  (G_eq rfl Tryz.func74 rfl rfl).trans (by kernel_rfl)
theorem l74_0 (x0 x1 : A) : L74_0 x0 x1 =
  (pLenS x0).bind fun t12 =>
  (pBin .lss false x1 t12).bind fun t13 =>
  (pBool t13).bind fun t14 =>
  brn t14 (
    (pIndexS x0 x1).bind fun t15 =>
    ((G 105 [t15]).bind (fin false)).bind fun t16 =>
    (pUn .not t16).bind fun t17 =>
    (pBool t17).bind fun t18 =>
    brn t18 (
      some ((vb false, []))) (
      (pBin .add false x1 (vi 1)).bind fun t19 =>
      L74_0 x0 t19)) (
    some ((vb true, []))) :=
  (H_eq Tryz.func74 rfl).trans (by kernel_rfl)
theorem g75 (a0 a1 a2 : A) : G 75 [a0, a1, a2] =
  (pCells 3 a0).bind fun t0 =>
  (pCells 2 a1).bind fun t1 =>
  (pCells 2 a2).bind fun t2 =>
  ((G 108 [A.agg [cGet t0 0, cGet t0 1, cGet t0 2], cGet t1 0]).bind (fin false)).bind fun t3 =>
  ((G 108 [A.agg [cGet t0 0, cGet t0 1, cGet t0 2], cGet t2 0]).bind (fin false)).bind fun t4 =>
  (pBin .eql false t3 t4).bind fun t5 =>
  (pBool t5).bind fun t6 =>
  brn t6 (
    (pLenL (cGet t1 1)).bind fun t7 =>
    (pLenL (cGet t2 1)).bind fun t8 =>
    (pBin .lss false t7 t8).bind fun t9 =>
    (pBool t9).bind fun t10 =>
    brn t10 (
      some ((vi (-1), []))) (
      (pBin .gtr false t7 t8).bind fun t11 =>
      (pBool t11).bind fun t12 =>
      brn t12 (
        some ((vi 1, []))) (
        some ((vi 0, []))))) (
    (pBin .lss false t3 t4).bind fun t13 =>
    (pBool t13).bind fun t14 =>
    brn t14 (
      some ((vi (-1), []))) (
      (pBin .gtr false t3 t4).bind fun t15 =>
      (pBool t15).bind fun t16 =>
      brn t16 (
        some ((vi 1, []))) (
        some ((vi 0, []))))) :=
  (G_eq rfl Tryz.func75 rfl rfl).trans (by kernel_rfl)
theorem g76 (a0 a1 : A) : G 76 [a0, a1] =
  (pCells 2 a0).bind fun t0 =>
  (pCells 2 a1).bind fun t1 =>
  L76_0 (vi 0) (cGet t0 0) (cGet t0 1) (cGet t1 0) (cGet t1 1) :=
  (G_eq rfl Tryz.func76 rfl rfl).trans (by kernel_rfl)
theorem l76_0 (x0 x1 x2 x3 x4 : A) : L76_0 x0 x1 x2 x3 x4 =
  (pLenL x2).bind fun t2 =>
  (pBin .lss false x0 t2).bind fun t3 =>
  (pBool t3).bind fun t4 =>
  brn t4 (
    (pIndexAddr 2 x2 x0).bind fun t5 =>
    (pLoadN 2 t5).bind fun t6 =>
    (pIndexAddr 2 x4 x0).bind fun t7 =>
    (pLoadN 2 t7).bind fun t8 =>
    ((G 50 [t6, t8]).bind (fin false)).bind fun t9 =>
    (pUn .not t9).bind fun t10 =>
    (pBool t10).bind fun t11 =>
    brn t11 (
      some ((x0, []))) (
      (pBin .add false x0 (vi 1)).bind fun t12 =>
      L76_0 t12 x1 x2 x3 x4)) (
    some ((vi (-1), []))) :=
  (H_eq Tryz.func76 rfl).trans (by kernel_rfl)
theorem g77 (a0 a1 a2 : A) : G 77 [a0, a1, a2] =
  (pBin .geq false a0 a1).bind fun t0 =>
  (pG t0 true (some a0)).bind fun t1 =>
  (pG t0 true (some a2)).bind fun t2 =>
  (pG t0 true (pBin .leq false t1 t2)).bind fun t3 =>
  (pPick t0 t3 (vb false)).bind fun t4 =>
  some ((t4, [])) :=
  (G_eq rfl Tryz.func77 rfl rfl).trans (by kernel_rfl)
theorem g78 (a0 : A) : G 78 [a0] =
  (pLenS a0).bind fun t0 =>
  L78_0 a0 t0 (vi 0) :=
  (G_eq rfl Tryz.func78 rfl rfl).trans (by kernel_rfl)
theorem l78_0 (x0 x1 x2 : A) : L78_0 x0 x1 x2 =
  (pBin .lss false x2 x1).bind fun t1 =>
  (pBool t1).bind fun t2 =>
  brn t2 (
    (pBin .eql false x2 (vi 0)).bind fun t3 =>
    (pG t3 true (some x0)).bind fun t4 =>
    (pG t3 true (some x2)).bind fun t5 =>
    (pG t3 true (pIndexS t4 t5)).bind fun t6 =>
    (pG t3 true ((G 111 [t6]).bind (fin false))).bind fun t7 =>
    (pG t3 true (pUn .not t7)).bind fun t8 =>
    (pPick t3 t8 (vb false)).bind fun t9 =>
    (pG t9 false (some x0)).bind fun t10 =>
    (pG t9 false (some x2)).bind fun t11 =>
    (pG t9 false (pIndexS t10 t11)).bind fun t12 =>
    (pG t9 false ((G 111 [t12]).bind (fin false))).bind fun t13 =>
    (pG t9 false (pUn .not t13)).bind fun t14 =>
    (pG t9 false (some t14)).bind fun t15 =>
    (pG t15 true (some x0)).bind fun t16 =>
    (pG t15 true (some x2)).bind fun t17 =>
    (pG t15 true (pIndexS t16 t17)).bind fun t18 =>
    (pG t15 true ((G 112 [t18]).bind (fin false))).bind fun t19 =>
    (pG t15 true (pUn .not t19)).bind fun t20 =>
    (pG t9 false (pPick t15 t20 (vb false))).bind fun t21 =>
    (pG t9 false (some t21)).bind fun t22 =>
    (pG t22 true (some x0)).bind fun t23 =>
    (pG t22 true (some x2)).bind fun t24 =>
    (pG t22 true (pIndexS t23 t24)).bind fun t25 =>
    (pG t22 true (pBin .neq false t25 (vy 95))).bind fun t26 =>
    (pG t9 false (pPick t22 t26 (vb false))).bind fun t27 =>
    (pPick t9 (vb true) t27).bind fun t28 =>
    (pBool t28).bind fun t29 =>
    brn t29 (
      some ((vb false, []))) (
      (pBin .add false x2 (vi 1)).bind fun t30 =>
      L78_0 x0 x1 t30)) (
    (pLenS x0).bind fun t31 =>
    ((G 77 [t31, vi 1, vi 6]).bind (fin false)).bind fun t32 =>
    (pG t32 true ((G 113 []).bind (fin false))).bind fun t33 =>
    (pG t32 true (some x0)).bind fun t34 =>
    (pG t32 true ((G 79 [t33, t34]).bind (fin false))).bind fun t35 =>
    (pG t32 true (pUn .not t35)).bind fun t36 =>
    (pPick t32 t36 (vb false)).bind fun t37 =>
    some ((t37, []))) :=
  (H_eq Tryz.func78 rfl).trans (by kernel_rfl)
theorem g79 (a0 a1 : A) : G 79 [a0, a1] =
  ((G 114 [a0, a1]).bind (fin false)).bind fun t0 =>
  (pBin .geq false t0 (vi 0)).bind fun t1 =>
  some ((t1, [])) :=
  (G_eq rfl Tryz.func79 rfl rfl).trans (by kernel_rfl)
theorem g80 (a0 : A) : G 80 [a0] =
  (pCells 2 a0).bind fun t0 =>
  (C115_0 (cGet t0 0) (cGet t0 1) []).bind fun t1 =>
  (hR 1 t1 0).bind fun t2 =>
  (C116_0 t2).bind fun t3 =>
  (hR 1 t3 0).bind fun t4 =>
  some ((A.sl 1 t4, [])) :=
  (G_eq rfl Tryz.func80 rfl rfl).trans (by kernel_rfl)
theorem g81 (a0 a1 : A) : G 81 [a0, a1] =
  (pCells 2 a0).bind fun t0 =>
  (pBin .eql false (cGet t0 0) a1).bind fun t1 =>
  (pBool t1).bind fun t2 =>
  brn t2 (
    (pLenL (cGet t0 1)).bind fun t3 =>
    L81_0 a1 (vi 1) (cGet t0 1) t3 (vi 0)) (
    (pLenL (cGet t0 1)).bind fun t4 =>
    L81_0 a1 (vi 0) (cGet t0 1) t4 (vi 0)) :=
  (G_eq rfl Tryz.func81 rfl rfl).trans (by kernel_rfl)
theorem l81_0 (x0 x1 x2 x3 x4 : A) : L81_0 x0 x1 x2 x3 x4 =
  (pBin .lss false x4 x3).bind fun t5 =>
  (pBool t5).bind fun t6 =>
  brn t6 (
    (pIndexAddr 2 x2 x4).bind fun t7 =>
    (pLoadN 2 t7).bind fun t8 =>
    (pCells 2 t8).bind fun t9 =>
    ((G 81 [A.agg [cGet t9 0, cGet t9 1], x0]).bind (fin false)).bind fun t10 =>
    (pBin .add false x1 t10).bind fun t11 =>
    (pBin .add false x4 (vi 1)).bind fun t12 =>
    L81_0 x0 t11 x2 x3 t12) (
    some ((x1, []))) :=
  (H_eq Tryz.func81 rfl).trans (by kernel_rfl)
theorem g82 (a0 a1 : A) : G 82 [a0, a1] =
  (pCells 3 a0).bind fun t0 =>
  (pCells 2 a1).bind fun t1 =>
  ((G 83 [A.agg [cGet t1 0, cGet t1 1]]).bind (fin false)).bind fun t2 =>
  (pBool t2).bind fun t3 =>
  brn t3 (
    some ((cGet t0 2, []))) (
    ((G 114 [cGet t0 0, cGet t1 0]).bind (fin false)).bind fun t4 =>
    (pIndexAddr 1 (cGet t0 1) t4).bind fun t5 =>
    (pLoadP t5).bind fun t6 =>
    (pLenL (cGet t1 1)).bind fun t7 =>
    L82_0 t6 (cGet t1 1) t7 (vi 0) (cGet t0 0) (cGet t0 1) (cGet t0 2)) :=
  (G_eq rfl Tryz.func82 rfl rfl).trans (by kernel_rfl)
theorem l82_0 (x0 x1 x2 x3 x4 x5 x6 : A) : L82_0 x0 x1 x2 x3 x4 x5 x6 =
  (pBin .lss false x3 x2).bind fun t8 =>
  (pBool t8).bind fun t9 =>
  brn t9 (
    (pIndexAddr 2 x1 x3).bind fun t10 =>
    (pLoadN 2 t10).bind fun t11 =>
    (pCells 2 t11).bind fun t12 =>
    ((G 82 [A.agg [x4, x5, x6], A.agg [cGet t12 0, cGet t12 1]]).bind (fin false)).bind fun t13 =>
    (pBin .add false x0 t13).bind fun t14 =>
    (pBin .add false x3 (vi 1)).bind fun t15 =>
    L82_0 t14 x1 x2 t15 x4 x5 x6) (
    some ((x0, []))) :=
  (H_eq Tryz.func82 rfl).trans (by kernel_rfl)
theorem g83 (a0 : A) : G 83 [a0] =
  (pCells 2 a0).bind fun t0 =>
  (pIndexS (cGet t0 0) (vi 0)).bind fun t1 =>
  ((G 117 [t1]).bind (fin false)).bind fun t2 =>
  some ((t2, [])) :=
  (G_eq rfl Tryz.func83 rfl rfl).trans (by kernel_rfl)
theorem g84 (a0 a1 a2 : A) : G 84 [a0, a1, a2] =
  (pCells 3 a0).bind fun t0 =>
  (pCells 2 a1).bind fun t1 =>
  (pCells 2 a2).bind fun t2 =>
  ((G 114 [cGet t0 0, cGet t1 0]).bind (fin false)).bind fun t3 =>
  ((G 114 [cGet t0 0, cGet t2 0]).bind (fin false)).bind fun t4 =>
  (pBin .lss false t3 t4).bind fun t5 =>
  (pG t5 false (some t3)).bind fun t6 =>
  (pG t5 false (some t4)).bind fun t7 =>
  (pG t5 false (pBin .eql false t6 t7)).bind fun t8 =>
  (pG t5 false (some t8)).bind fun t9 =>
  (pWant t9 true).bind fun t10 =>
  (pG t9 true (some (cGet t1 1))).bind fun t11 =>
  (pG t9 true (pLenL t11)).bind fun t12 =>
  (pWant t9 true).bind fun t13 =>
  (pG t9 true (some (cGet t2 1))).bind fun t14 =>
  (pG t9 true (pLenL t14)).bind fun t15 =>
  (pG t9 true (pBin .lss false t12 t15)).bind fun t16 =>
  (pG t5 false (pPick t9 t16 (vb false))).bind fun t17 =>
  (pPick t5 (vb true) t17).bind fun t18 =>
  some ((t18, [])) :=
  (G_eq rfl Tryz.func84 rfl rfl).trans (by kernel_rfl)
theorem g85 (a0 a1 : A) : G 85 [a0, a1] =
  (pCells 2 a0).bind fun t0 =>
  (pCells 2 a1).bind fun t1 =>
  (pBin .neq false (cGet t0 0) (cGet t1 0)).bind fun t2 =>
  (pWant t2 false).bind fun t3 =>
  (pG t2 false (some (cGet t0 1))).bind fun t4 =>
  (pG t2 false (pLenL t4)).bind fun t5 =>
  (pWant t2 false).bind fun t6 =>
  (pG t2 false (some (cGet t1 1))).bind fun t7 =>
  (pG t2 false (pLenL t7)).bind fun t8 =>
  (pG t2 false (pBin .neq false t5 t8)).bind fun t9 =>
  (pPick t2 (vb true) t9).bind fun t10 =>
  (pBool t10).bind fun t11 =>
  brn t11 (
    some ((A.tup [A.agg [sv [], A.sl 2 []], A.agg [sv [], A.sl 2 []], vb false], []))) (
    (pLenL (cGet t0 1)).bind fun t12 =>
    L85_0 (cGet t0 1) t12 (vi 0) (cGet t1 0) (cGet t1 1) (sv []) (sv []) [] []) :=
  (G_eq rfl Tryz.func85 rfl rfl).trans (by kernel_rfl)
theorem l85_0 (x0 x1 x2 x3 x4 x5 x6 : A) (r0 r1 : List (List A)) : L85_0 x0 x1 x2 x3 x4 x5 x6 r0 r1 =
  (pBin .lss false x2 x1).bind fun t13 =>
  (pBool t13).bind fun t14 =>
  brn t14 (
    (pIndexAddr 2 x0 x2).bind fun t15 =>
    (pLoadN 2 t15).bind fun t16 =>
    (pCells 2 t16).bind fun t17 =>
    (pIndexAddr 2 x4 x2).bind fun t18 =>
    (pLoadN 2 t18).bind fun t19 =>
    ((G 52 [A.agg [cGet t17 0, cGet t17 1], t19]).bind (fin false)).bind fun t20 =>
    (pUn .not t20).bind fun t21 =>
    (pBool t21).bind fun t22 =>
    brn t22 (
      (pIndexAddr 2 x4 x2).bind fun t23 =>
      (pLoadN 2 t23).bind fun t24 =>
      brn (okA (cGet t17 0)) (
        brn (okA (cGet t17 1)) (
          (pCells 2 t24).bind fun t25 =>
          some ((A.tup [A.agg [cGet t17 0, cGet t17 1], A.agg [cGet t25 0, cGet t25 1], vb true], []))) (
          none)) (
        none)) (
      (pBin .add false x2 (vi 1)).bind fun t26 =>
      L85_0 x0 x1 t26 x3 x4 x5 x6 r0 r1)) (
    some ((A.tup [A.agg [sv [], A.sl 2 []], A.agg [sv [], A.sl 2 []], vb false], []))) :=
  (H_eq Tryz.func85 rfl).trans (by kernel_rfl)
theorem g91 (a0 a1 : A) : G 91 [a0, a1] =
  ((G 121 [a0, a1]).bind (fin false)).bind fun t0 =>
  (pBin .geq false t0 (vi 0)).bind fun t1 =>
  some ((t1, [])) :=
  (G_eq rfl Tryz.func91 rfl rfl).trans (by kernel_rfl)
theorem g92 (a0 a1 : A) : G 92 [a0, a1] =
  (pCells 2 a0).bind fun t0 =>
  ((G 93 [A.agg [cGet t0 0, cGet t0 1]]).bind (fin false)).bind fun t1 =>
  (pUn .not t1).bind fun t2 =>
  (pG t2 false (pLoadN 3 a1)).bind fun t3 =>
  (pWant t2 false).bind fun t4 =>
  (pG t2 false ((G 94 [t3, A.agg [cGet t0 0, cGet t0 1]]).bind (fin false))).bind fun t5 =>
  (pG t2 false (pUn .not t5)).bind fun t6 =>
  (pPick t2 (vb true) t6).bind fun t7 =>
  some ((t7, [])) :=
  (G_eq rfl Tryz.func92 rfl rfl).trans (by kernel_rfl)
theorem g93 (a0 : A) : G 93 [a0] =
  (pCells 2 a0).bind fun t0 =>
  ((G 122 [A.agg [cGet t0 0, cGet t0 1]]).bind (fin false)).bind fun t1 =>
  (pWant t1 true).bind fun t2 =>
  (pG t1 true ((G 123 [A.agg [cGet t0 0, cGet t0 1]]).bind (fin false))).bind fun t3 =>
  (pPick t1 t3 (vb false)).bind fun t4 =>
  some ((t4, [])) :=
  (G_eq rfl Tryz.func93 rfl rfl).trans (by kernel_rfl)
theorem g94 (a0 a1 : A) : G 94 [a0, a1] =
  (pCells 3 a0).bind fun t0 =>
  (pCells 2 a1).bind fun t1 =>
  ((G 83 [A.agg [cGet t1 0, cGet t1 1]]).bind (fin false)).bind fun t2 =>
  (pWant t2 false).bind fun t3 =>
  (pG t2 false (some (cGet t0 0))).bind fun t4 =>
  (pWant t2 false).bind fun t5 =>
  (pG t2 false (some (cGet t1 0))).bind fun t6 =>
  (pG t2 false ((G 79 [t4, t6]).bind (fin false))).bind fun t7 =>
  (pPick t2 (vb true) t7).bind fun t8 =>
  (pWant t8 true).bind fun t9 =>
  (pG t8 true (some (cGet t1 1))).bind fun t10 =>
  (pWant t8 true).bind fun t11 =>
  (pG t8 true ((G 91 [t10, A.fn 124 [A.elt [cGet t0 0, cGet t0 1, cGet t0 2] 0]]).bind (fin true))).bind fun t12 =>
  (pG t8 true (pUn .not t12)).bind fun t13 =>
  (pPick t8 t13 (vb false)).bind fun t14 =>
  some ((t14, [])) :=
  (G_eq rfl Tryz.func94 rfl rfl).trans (by kernel_rfl)
theorem g95 (a0 a1 a2 : A) : G 95 [a0, a1, a2] =
  (pLoadN 3 a0).bind fun t0 =>
  (pLoadN 2 a1).bind fun t1 =>
  (pLoadN 2 a2).bind fun t2 =>
  ((G 41 [t0, t1, t2]).bind (fin false)).bind fun t3 =>
  some ((t3, [])) :=
  (G_eq rfl Tryz.func95 rfl rfl).trans (by kernel_rfl)
theorem g96 (a0 a1 a2 : A) : G 96 [a0, a1, a2] =
  (pLoadN 3 a0).bind fun t0 =>
  (pLoadN 2 a1).bind fun t1 =>
  (pLoadN 2 a2).bind fun t2 =>
  ((G 41 [t0, t1, t2]).bind (fin false)).bind fun t3 =>
  some ((t3, [])) :=
  (G_eq rfl Tryz.func96 rfl rfl).trans (by kernel_rfl)
theorem g97 (a0 : A) : G 97 [a0] =
  (pCells 2 a0).bind fun t0 =>
  ((G 106 [A.agg [cGet t0 0, cGet t0 1]]).bind (fin false)).bind fun t1 =>
  (pWant t1 true).bind fun t2 =>
  (pG t1 true ((G 107 [A.agg [cGet t0 0, cGet t0 1]]).bind (fin false))).bind fun t3 =>
  (pPick t1 t3 (vb false)).bind fun t4 =>
  some ((t4, [])) :=
  (G_eq rfl Tryz.func97 rfl rfl).trans (by kernel_rfl)
theorem g98 (a0 a1 a2 : A) : G 98 [a0, a1, a2] =
  (pLenL a0).bind fun t0 =>
  (pLenL a1).bind fun t1 =>
  (pBin .neq false t0 t1).bind fun t2 =>
  (pBool t2).bind fun t3 =>
  brn t3 (
    some ((vb false, []))) (
    (pLenL a0).bind fun t4 =>
    L98_0 a1 a2 a0 t4 (vi 0)) :=
  (G_eq rfl Tryz.func98 rfl rfl).trans (by kernel_rfl)
theorem l98_0 (x0 x1 x2 x3 x4 : A) : L98_0 x0 x1 x2 x3 x4 =
  (pBin .lss false x4 x3).bind fun t5 =>
  (pBool t5).bind fun t6 =>
  brn t6 (
    (pIndexAddr 2 x2 x4).bind fun t7 =>
    (pLoadN 2 t7).bind fun t8 =>
    (pCells 2 t8).bind fun t9 =>
    (pIndexAddr 2 x0 x4).bind fun t10 =>
    (pLoadN 2 t10).bind fun t11 =>
    (pCells 2 t11).bind fun t12 =>
    (DX.run K (MM K) (.callc x1 [A.agg [cGet t9 0, cGet t9 1], A.agg [cGet t12 0, cGet t12 1]] false)).bind fun t13 =>
    (pUn .not t13).bind fun t14 =>
    (pBool t14).bind fun t15 =>
    brn t15 (
      some ((vb false, []))) (
      (pBin .add false x4 (vi 1)).bind fun t16 =>
      L98_0 x0 x1 x2 x3 t16)) (
    some ((vb true, []))) :=
  (H_eq Tryz.func98 rfl).trans (by kernel_rfl)
theorem g99 (a0 a1 a2 : A) : G 99 [a0, a1, a2] =
  (pCells 2 a0).bind fun t0 =>
  (pLoadN 2 a1).bind fun t1 =>
  ((G 52 [A.agg [cGet t0 0, cGet t0 1], t1]).bind (fin false)).bind fun t2 =>
  (pG t2 false (pLoadN 3 a2)).bind fun t3 =>
  (pWant t2 false).bind fun t4 =>
  (pG t2 false (pLoadN 2 a1)).bind fun t5 =>
  (pG t2 false ((G 54 [t3, A.agg [cGet t0 0, cGet t0 1], t5]).bind (fin false))).bind fun t6 =>
  (pPick t2 (vb true) t6).bind fun t7 =>
  some ((t7, [])) :=
  (G_eq rfl Tryz.func99 rfl rfl).trans (by kernel_rfl)
theorem g100 (a0 a1 a2 : A) : G 100 [a0, a1, a2] =
  (pCells 2 a0).bind fun t0 =>
  (pLoadN 3 a1).bind fun t1 =>
  (pLoadN 2 a2).bind fun t2 =>
  ((G 54 [t1, t2, A.agg [cGet t0 0, cGet t0 1]]).bind (fin false)).bind fun t3 =>
  (pUn .not t3).bind fun t4 =>
  some ((t4, [])) :=
  (G_eq rfl Tryz.func100 rfl rfl).trans (by kernel_rfl)
theorem g102 (a0 : A) : G 102 [a0] =
  (pCells 2 a0).bind fun t0 =>
  ((G 59 [A.agg [cGet t0 0, cGet t0 1]]).bind (fin false)).bind fun t1 =>
  (pBool t1).bind fun t2 =>
  brn t2 (
    (pLenL (cGet t0 1)).bind fun t3 =>
    (pBin .eql false t3 (vi 2)).bind fun t4 =>
    (pWant t4 true).bind fun t5 =>
    (pG t4 true ((G 122 [A.agg [cGet t0 0, cGet t0 1]]).bind (fin false))).bind fun t6 =>
    (pPick t4 t6 (vb false)).bind fun t7 =>
    (pWant t7 true).bind fun t8 =>
    (pG t7 true (some (cGet t0 1))).bind fun t9 =>
    (pG t7 true (pIndexAddr 2 t9 (vi 0))).bind fun t10 =>
    (pG t7 true (pLoadN 2 t10)).bind fun t11 =>
    (pG t7 true ((G 123 [t11]).bind (fin false))).bind fun t12 =>
    (pPick t7 t12 (vb false)).bind fun t13 =>
    (pWant t13 true).bind fun t14 =>
    (pG t13 true (some (cGet t0 1))).bind fun t15 =>
    (pG t13 true (pIndexAddr 2 t15 (vi 1))).bind fun t16 =>
    (pG t13 true (pLoadN 2 t16)).bind fun t17 =>
    (pG t13 true ((G 123 [t17]).bind (fin false))).bind fun t18 =>
    (pPick t13 t18 (vb false)).bind fun t19 =>
    some ((t19, []))) (
    ((G 78 [cGet t0 0]).bind (fin false)).bind fun t20 =>
    (pWant t20 true).bind fun t21 =>
    (pG t20 true ((G 93 [A.agg [cGet t0 0, cGet t0 1]]).bind (fin false))).bind fun t22 =>
    (pPick t20 t22 (vb false)).bind fun t23 =>
    some ((t23, []))) :=
  (G_eq rfl Tryz.func102 rfl rfl).trans (by kernel_rfl)
theorem c103_0 (x0 : A) : C103_0 x0 =
  (pLenL x0).bind fun t0 =>
  (pBin .eql false t0 (vi 0)).bind fun t1 =>
  (pBool t1).bind fun t2 =>
  brn t2 (
    some ((A.top, [A.sl 2 []]))) (
    (pLenL x0).bind fun t3 =>
    (pMake 40 t3 t3).bind fun t4 =>
    (pLenL x0).bind fun t5 =>
    L103c0_0 x0 t5 (vi 0) (rRep t4 [sv [], A.sl 2 []])) :=
  (V_eq rfl Tryz.func103 rfl rfl).trans (by kernel_rfl)
theorem l103c0_0 (x0 x1 x2 : A) (r0 : List (List A)) : L103c0_0 x0 x1 x2 r0 =
  (pBin .lss false x2 x1).bind fun t6 =>
  (pBool t6).bind fun t7 =>
  brn t7 (
    (pIndexAddr 2 x0 x2).bind fun t8 =>
    (pLoadN 2 t8).bind fun t9 =>
    (pCells 2 t9).bind fun t10 =>
    (C61_0 (cGet t10 0) (cGet t10 1)).bind fun t11 =>
    (hD t11 0).bind fun t12 =>
    (hR 2 t11 1).bind fun t13 =>
    (pIx (rLenN r0) x2).bind fun t14 =>
    brn (okA t12) (
      (rGet r0 t14).bind fun t15 =>
      (pBin .add false x2 (vi 1)).bind fun t16 =>
      L103c0_0 x0 x1 t16 (rSet r0 t14 (cOver t15 0 [t12, A.sl 2 t13]))) (
      none)) (
    some ((A.top, [A.sl 2 r0]))) :=
  (H_eq Tryz.func103 rfl).trans (by kernel_rfl)
theorem g105 (a0 : A) : G 105 [a0] =
  (pBin .geq false a0 (vy 97)).bind fun t0 =>
  (pG t0 true (some a0)).bind fun t1 =>
  (pG t0 true (pBin .leq false t1 (vy 122))).bind fun t2 =>
  (pPick t0 t2 (vb false)).bind fun t3 =>
  (pG t3 false (some a0)).bind fun t4 =>
  (pG t3 false (pBin .geq false t4 (vy 48))).bind fun t5 =>
  (pG t3 false (some t5)).bind fun t6 =>
  (pG t6 true (some a0)).bind fun t7 =>
  (pG t6 true (pBin .leq false t7 (vy 57))).bind fun t8 =>
  (pG t3 false (pPick t6 t8 (vb false))).bind fun t9 =>
  (pPick t3 (vb true) t9).bind fun t10 =>
  some ((t10, [])) :=
  (G_eq rfl Tryz.func105 rfl rfl).trans (by kernel_rfl)
theorem g106 (a0 : A) : G 106 [a0] =
  (pCells 2 a0).bind fun t0 =>
  ((G 125 [A.agg [cGet t0 0, cGet t0 1], vi 30]).bind (fin false)).bind fun t1 =>
  (pBin .leq false t1 (vi 30)).bind fun t2 =>
  (pWant t2 true).bind fun t3 =>
  (pG t2 true ((G 126 [A.agg [cGet t0 0, cGet t0 1]]).bind (fin false))).bind fun t4 =>
  (pG t2 true (pBin .leq false t4 (vi 8))).bind fun t5 =>
  (pPick t2 t5 (vb false)).bind fun t6 =>
  some ((t6, [])) :=
  (G_eq rfl Tryz.func106 rfl rfl).trans (by kernel_rfl)
theorem g107 (a0 : A) : G 107 [a0] =
  (pCells 2 a0).bind fun t0 =>
  ((G 74 [cGet t0 0]).bind (fin false)).bind fun t1 =>
  (pBool t1).bind fun t2 =>
  brn t2 (
    (pLenL (cGet t0 1)).bind fun t3 =>
    (pBin .eql false t3 (vi 0)).bind fun t4 =>
    some ((t4, []))) (
    ((G 68 [cGet t0 0]).bind (fin false)).bind fun t5 =>
    (pUn .not t5).bind fun t6 =>
    (pWant t6 false).bind fun t7 =>
    (pG t6 false (some (cGet t0 1))).bind fun t8 =>
    (pG t6 false (pLenL t8)).bind fun t9 =>
    (pG t6 false (pBin .gtr false t9 (vi 4))).bind fun t10 =>
    (pPick t6 (vb true) t10).bind fun t11 =>
    (pBool t11).bind fun t12 =>
    brn t12 (
      some ((vb false, []))) (
      L107_0 (vi 0) (cGet t0 0) (cGet t0 1))) :=
  (G_eq rfl Tryz.func107 rfl rfl).trans (by kernel_rfl)
theorem l107_0 (x0 x1 x2 : A) : L107_0 x0 x1 x2 =
  (pLenL x2).bind fun t13 =>
  (pBin .lss false x0 t13).bind fun t14 =>
  (pBool t14).bind fun t15 =>
  brn t15 (
    (pIndexAddr 2 x2 x0).bind fun t16 =>
    (pLoadN 2 t16).bind fun t17 =>
    ((G 107 [t17]).bind (fin false)).bind fun t18 =>
    (pUn .not t18).bind fun t19 =>
    (pBool t19).bind fun t20 =>
    brn t20 (
      some ((vb false, []))) (
      (pBin .add false x0 (vi 1)).bind fun t21 =>
      L107_0 t21 x1 x2)) (
    some ((vb true, []))) :=
  (H_eq Tryz.func107 rfl).trans (by kernel_rfl)
theorem g108 (a0 a1 : A) : G 108 [a0, a1] =
  (pCells 3 a0).bind fun t0 =>
  L108_0 a1 (vi 0) (cGet t0 0) (cGet t0 1) (cGet t0 2) :=
  (G_eq rfl Tryz.func108 rfl rfl).trans (by kernel_rfl)
theorem l108_0 (x0 x1 x2 x3 x4 : A) : L108_0 x0 x1 x2 x3 x4 =
  (pLenL x2).bind fun t1 =>
  (pBin .lss false x1 t1).bind fun t2 =>
  (pBool t2).bind fun t3 =>
  brn t3 (
    (pIndexAddr 1 x2 x1).bind fun t4 =>
    (pLoadP t4).bind fun t5 =>
    (pBin .eql false t5 x0).bind fun t6 =>
    (pBool t6).bind fun t7 =>
    brn t7 (
      some ((x1, []))) (
      (pBin .add false x1 (vi 1)).bind fun t8 =>
      L108_0 x0 t8 x2 x3 x4)) (
    some ((vi (-1), []))) :=
  (H_eq Tryz.func108 rfl).trans (by kernel_rfl)
theorem g109 (a0 : A) : G 109 [a0] =
  (pCells 2 a0).bind fun t0 =>
  ((G 127 [A.sl 1 [], A.agg [cGet t0 0, cGet t0 1]]).bind (fin false)).bind fun t1 =>
  some ((t1, [])) :=
  (G_eq rfl Tryz.func109 rfl rfl).trans (by kernel_rfl)
theorem g110 (a0 a1 : A) : G 110 [a0, a1] =
  (pCells 2 a0).bind fun t0 =>
  (pBin .eql false (cGet t0 0) a1).bind fun t1 =>
  (pBool t1).bind fun t2 =>
  brn t2 (
    L110_0 a1 (vi 1) (vi 0) (cGet t0 0) (cGet t0 1)) (
    L110_0 a1 (vi 0) (vi 0) (cGet t0 0) (cGet t0 1)) :=
  (G_eq rfl Tryz.func110 rfl rfl).trans (by kernel_rfl)
theorem l110_0 (x0 x1 x2 x3 x4 : A) : L110_0 x0 x1 x2 x3 x4 =
  (pLenL x4).bind fun t3 =>
  (pBin .lss false x2 t3).bind fun t4 =>
  (pBool t4).bind fun t5 =>
  brn t5 (
    (pIndexAddr 2 x4 x2).bind fun t6 =>
    (pLoadN 2 t6).bind fun t7 =>
    ((G 110 [t7, x0]).bind (fin false)).bind fun t8 =>
    (pBin .add false x1 t8).bind fun t9 =>
    (pBin .add false x2 (vi 1)).bind fun t10 =>
    L110_0 x0 t9 t10 x3 x4) (
    some ((x1, []))) :=
  (H_eq Tryz.func110 rfl).trans (by kernel_rfl)
theorem g111 (a0 : A) : G 111 [a0] =
  (pBin .geq false a0 (vy 97)).bind fun t0 =>
  (pG t0 true (some a0)).bind fun t1 =>
  (pG t0 true (pBin .leq false t1 (vy 122))).bind fun t2 =>
  (pPick t0 t2 (vb false)).bind fun t3 =>
  some ((t3, [])) :=
  (G_eq rfl Tryz.func111 rfl rfl).trans (by kernel_rfl)
theorem g112 (a0 : A) : G 112 [a0] =
  (pBin .geq false a0 (vy 48)).bind fun t0 =>
  (pG t0 true (some a0)).bind fun t1 =>
  (pG t0 true (pBin .leq false t1 (vy 57))).bind fun t2 =>
  (pPick t0 t2 (vb false)).bind fun t3 =>
  some ((t3, [])) :=
  (G_eq rfl Tryz.func112 rfl rfl).trans (by kernel_rfl)
theorem g113 : G 113 [] =
  some ((A.sl 1 [[sv [116, 114, 117, 101]], [sv [102, 97, 108, 115, 101]], [sv [116, 114, 117, 116, 104]], [sv [98, 111, 116, 104]], [sv [101, 105, 116, 104, 101, 114]], [sv [105, 102]], [sv [97, 108, 108]], [sv [115, 111, 109, 101]]], [])) :=
  (G_eq rfl Tryz.func113 rfl rfl).trans (by kernel_rfl)
theorem g114 (a0 a1 : A) : G 114 [a0, a1] =
  (pLenL a0).bind fun t0 =>
  L114_0 a0 a1 t0 (vi 0) :=
  (G_eq rfl Tryz.func114 rfl rfl).trans (by kernel_rfl)
theorem l114_0 (x0 x1 x2 x3 : A) : L114_0 x0 x1 x2 x3 =
  (pBin .lss false x3 x2).bind fun t1 =>
  (pBool t1).bind fun t2 =>
  brn t2 (
    (pIndexAddr 1 x0 x3).bind fun t3 =>
    (pLoadP t3).bind fun t4 =>
    (pBin .eql false x1 t4).bind fun t5 =>
    (pBool t5).bind fun t6 =>
    brn t6 (
      some ((x3, []))) (
      (pBin .add false x3 (vi 1)).bind fun t7 =>
      L114_0 x0 x1 x2 t7)) (
    some ((vi (-1), []))) :=
  (H_eq Tryz.func114 rfl).trans (by kernel_rfl)
theorem c115_0 (x0 x1 : A) (r0 : List (List A)) : C115_0 x0 x1 r0 =
  brn (okA x0) (
    brn (okA x1) (
      (pLenL x1).bind fun t0 =>
      (pBin .eql false t0 (vi 0)).bind fun t1 =>
      (pWant t1 true).bind fun t2 =>
      (pG t1 true ((G 83 [A.agg [x0, x1]]).bind (fin false))).bind fun t3 =>
      (pPick t1 t3 (vb false)).bind fun t4 =>
      (pBool t4).bind fun t5 =>
      brn t5 (
        ((G 79 [A.sl 1 r0, x0]).bind (fin true)).bind fun t6 =>
        (pUn .not t6).bind fun t7 =>
        (pBool t7).bind fun t8 =>
        brn t8 (
          brn (okA x0) (
            brn (pFit ((rLenN r0) + (rLenN [[x0]])) 16) (
              some ((A.top, [A.sl 1 (rApp r0 [[x0]])]))) (
              none)) (
            none)) (
          some ((A.top, [A.sl 1 r0])))) (
        (pLenL x1).bind fun t9 =>
        L115c0_0 x1 t9 (vi 0) r0)) (
      none)) (
    none) :=
  (V_eq rfl Tryz.func115 rfl rfl).trans (by kernel_rfl)
theorem l115c0_0 (x0 x1 x2 : A) (r0 : List (List A)) : L115c0_0 x0 x1 x2 r0 =
  (pBin .lss false x2 x1).bind fun t10 =>
  (pBool t10).bind fun t11 =>
  brn t11 (
    (pIndexAddr 2 x0 x2).bind fun t12 =>
    (pLoadN 2 t12).bind fun t13 =>
    (pCells 2 t13).bind fun t14 =>
    (C115_0 (cGet t14 0) (cGet t14 1) r0).bind fun t15 =>
    (hR 1 t15 0).bind fun t16 =>
    (pBin .add false x2 (vi 1)).bind fun t17 =>
    L115c0_1 x0 x1 t17 t16) (
    some ((A.top, [A.sl 1 r0]))) :=
  (H_eq Tryz.func115 rfl).trans (by kernel_rfl)
theorem l115c0_1 (x0 x1 x2 : A) (r0 : List (List A)) : L115c0_1 x0 x1 x2 r0 =
  (pBin .lss false x2 x1).bind fun t18 =>
  (pBool t18).bind fun t19 =>
  brn t19 (
    (pIndexAddr 2 x0 x2).bind fun t20 =>
    (pLoadN 2 t20).bind fun t21 =>
    (pCells 2 t21).bind fun t22 =>
    (C115_0 (cGet t22 0) (cGet t22 1) r0).bind fun t23 =>
    (hR 1 t23 0).bind fun t24 =>
    (pBin .add false x2 (vi 1)).bind fun t25 =>
    L115c0_1 x0 x1 t25 t24) (
    some ((A.top, [A.sl 1 r0]))) :=
  (H_eq Tryz.func115 rfl).trans (by kernel_rfl)
theorem c116_0 (r0 : List (List A)) : C116_0 r0 = Go.Proofs.YtheaeglaebimoaaGreat.Abs.sortX [V.row 0] [.row 1 r0] :=
  X_eq rfl
theorem g117 (a0 : A) : G 117 [a0] =
  (pBin .geq false a0 (vy 65)).bind fun t0 =>
  (pG t0 true (some a0)).bind fun t1 =>
  (pG t0 true (pBin .leq false t1 (vy 90))).bind fun t2 =>
  (pPick t0 t2 (vb false)).bind fun t3 =>
  some ((t3, [])) :=
  (G_eq rfl Tryz.func117 rfl rfl).trans (by kernel_rfl)
theorem g121 (a0 a1 : A) : G 121 [a0, a1] =
  (pLenL a0).bind fun t0 =>
  L121_0 a0 a1 t0 (vi 0) :=
  (G_eq rfl Tryz.func121 rfl rfl).trans (by kernel_rfl)
theorem l121_0 (x0 x1 x2 x3 : A) : L121_0 x0 x1 x2 x3 =
  (pBin .lss false x3 x2).bind fun t1 =>
  (pBool t1).bind fun t2 =>
  brn t2 (
    (pIndexAddr 2 x0 x3).bind fun t3 =>
    (pLoadN 2 t3).bind fun t4 =>
    (DX.run K (MM K) (.callc x1 [t4] false)).bind fun t5 =>
    (pBool t5).bind fun t6 =>
    brn t6 (
      some ((x3, []))) (
      (pBin .add false x3 (vi 1)).bind fun t7 =>
      L121_0 x0 x1 x2 t7)) (
    some ((vi (-1), []))) :=
  (H_eq Tryz.func121 rfl).trans (by kernel_rfl)
theorem g122 (a0 : A) : G 122 [a0] =
  (pCells 2 a0).bind fun t0 =>
  ((G 130 [A.agg [cGet t0 0, cGet t0 1]]).bind (fin false)).bind fun t1 =>
  (pBin .leq false t1 (vi 30)).bind fun t2 =>
  (pWant t2 true).bind fun t3 =>
  (pG t2 true ((G 131 [A.agg [cGet t0 0, cGet t0 1]]).bind (fin false))).bind fun t4 =>
  (pG t2 true (pBin .leq false t4 (vi 8))).bind fun t5 =>
  (pPick t2 t5 (vb false)).bind fun t6 =>
  some ((t6, [])) :=
  (G_eq rfl Tryz.func122 rfl rfl).trans (by kernel_rfl)
theorem g123 (a0 : A) : G 123 [a0] =
  (pCells 2 a0).bind fun t0 =>
  ((G 132 [cGet t0 0]).bind (fin false)).bind fun t1 =>
  (pBool t1).bind fun t2 =>
  brn t2 (
    (pLenL (cGet t0 1)).bind fun t3 =>
    (pBin .eql false t3 (vi 0)).bind fun t4 =>
    some ((t4, []))) (
    ((G 78 [cGet t0 0]).bind (fin false)).bind fun t5 =>
    (pWant t5 true).bind fun t6 =>
    (pG t5 true (some (cGet t0 1))).bind fun t7 =>
    (pG t5 true (pLenL t7)).bind fun t8 =>
    (pG t5 true (pBin .leq false t8 (vi 4))).bind fun t9 =>
    (pPick t5 t9 (vb false)).bind fun t10 =>
    (pWant t10 true).bind fun t11 =>
    (pG t10 true (some (cGet t0 1))).bind fun t12 =>
    (pG t10 true ((G 91 [t12, A.fn 133 []]).bind (fin false))).bind fun t13 =>
    (pG t10 true (pUn .not t13)).bind fun t14 =>
    (pPick t10 t14 (vb false)).bind fun t15 =>
    some ((t15, []))) :=
  (G_eq rfl Tryz.func123 rfl rfl).trans (by kernel_rfl)
theorem g124 (a0 a1 : A) : G 124 [a0, a1] =
  (pCells 2 a0).bind fun t0 =>
  (pLoadN 3 a1).bind fun t1 =>
  ((G 94 [t1, A.agg [cGet t0 0, cGet t0 1]]).bind (fin false)).bind fun t2 =>
  (pUn .not t2).bind fun t3 =>
  some ((t3, [])) :=
  (G_eq rfl Tryz.func124 rfl rfl).trans (by kernel_rfl)
theorem g125 (a0 a1 : A) : G 125 [a0, a1] =
  (pCells 2 a0).bind fun t0 =>
  L125_0 a1 (vi 1) (vi 0) (cGet t0 0) (cGet t0 1) :=
  (G_eq rfl Tryz.func125 rfl rfl).trans (by kernel_rfl)
theorem l125_0 (x0 x1 x2 x3 x4 : A) : L125_0 x0 x1 x2 x3 x4 =
  (pLenL x4).bind fun t1 =>
  (pBin .lss false x2 t1).bind fun t2 =>
  (pG t2 true (some x1)).bind fun t3 =>
  (pG t2 true (some x0)).bind fun t4 =>
  (pG t2 true (pBin .leq false t3 t4)).bind fun t5 =>
  (pPick t2 t5 (vb false)).bind fun t6 =>
  (pBool t6).bind fun t7 =>
  brn t7 (
    (pIndexAddr 2 x4 x2).bind fun t8 =>
    (pLoadN 2 t8).bind fun t9 =>
    (pBin .sub false x0 x1).bind fun t10 =>
    ((G 125 [t9, t10]).bind (fin false)).bind fun t11 =>
    (pBin .add false x1 t11).bind fun t12 =>
    (pBin .add false x2 (vi 1)).bind fun t13 =>
    L125_0 x0 t12 t13 x3 x4) (
    some ((x1, []))) :=
  (H_eq Tryz.func125 rfl).trans (by kernel_rfl)
theorem g126 (a0 : A) : G 126 [a0] =
  (pCells 2 a0).bind fun t0 =>
  L126_0 (vi 0) (vi 0) (cGet t0 0) (cGet t0 1) :=
  (G_eq rfl Tryz.func126 rfl rfl).trans (by kernel_rfl)
theorem l126_0 (x0 x1 x2 x3 : A) : L126_0 x0 x1 x2 x3 =
  (pLenL x3).bind fun t1 =>
  (pBin .lss false x1 t1).bind fun t2 =>
  (pBool t2).bind fun t3 =>
  brn t3 (
    (pIndexAddr 2 x3 x1).bind fun t4 =>
    (pLoadN 2 t4).bind fun t5 =>
    ((G 126 [t5]).bind (fin false)).bind fun t6 =>
    ((G 134 [x0, t6]).bind (fin false)).bind fun t7 =>
    (pBin .add false x1 (vi 1)).bind fun t8 =>
    L126_0 t7 t8 x2 x3) (
    (pBin .add false x0 (vi 1)).bind fun t9 =>
    some ((t9, []))) :=
  (H_eq Tryz.func126 rfl).trans (by kernel_rfl)
theorem g127 (a0 a1 : A) : G 127 [a0, a1] =
  (pCells 2 a1).bind fun t0 =>
  ((G 74 [cGet t0 0]).bind (fin false)).bind fun t1 =>
  (pBool t1).bind fun t2 =>
  brn t2 (
    ((G 135 [a0, cGet t0 0]).bind (fin false)).bind fun t3 =>
    some ((t3, []))) (
    L127_0 a0 (vi 0) (cGet t0 0) (cGet t0 1)) :=
  (G_eq rfl Tryz.func127 rfl rfl).trans (by kernel_rfl)
theorem l127_0 (x0 x1 x2 x3 : A) : L127_0 x0 x1 x2 x3 =
  (pLenL x3).bind fun t4 =>
  (pBin .lss false x1 t4).bind fun t5 =>
  (pBool t5).bind fun t6 =>
  brn t6 (
    (pIndexAddr 2 x3 x1).bind fun t7 =>
    (pLoadN 2 t7).bind fun t8 =>
    ((G 127 [x0, t8]).bind (fin false)).bind fun t9 =>
    (pBin .add false x1 (vi 1)).bind fun t10 =>
    L127_0 t9 t10 x2 x3) (
    some ((x0, []))) :=
  (H_eq Tryz.func127 rfl).trans (by kernel_rfl)
theorem g130 (a0 : A) : G 130 [a0] =
  (pCells 2 a0).bind fun t0 =>
  (pLenL (cGet t0 1)).bind fun t1 =>
  L130_0 (vi 1) (cGet t0 1) t1 (vi 0) :=
  (G_eq rfl Tryz.func130 rfl rfl).trans (by kernel_rfl)
theorem l130_0 (x0 x1 x2 x3 : A) : L130_0 x0 x1 x2 x3 =
  (pBin .lss false x3 x2).bind fun t2 =>
  (pBool t2).bind fun t3 =>
  brn t3 (
    (pIndexAddr 2 x1 x3).bind fun t4 =>
    (pLoadN 2 t4).bind fun t5 =>
    (pCells 2 t5).bind fun t6 =>
    (pBin .gtr false x0 (vi 30)).bind fun t7 =>
    (pBool t7).bind fun t8 =>
    brn t8 (
      some ((x0, []))) (
      ((G 130 [A.agg [cGet t6 0, cGet t6 1]]).bind (fin false)).bind fun t9 =>
      (pBin .add false x0 t9).bind fun t10 =>
      (pBin .add false x3 (vi 1)).bind fun t11 =>
      L130_0 t10 x1 x2 t11)) (
    some ((x0, []))) :=
  (H_eq Tryz.func130 rfl).trans (by kernel_rfl)
theorem g131 (a0 : A) : G 131 [a0] =
  (pCells 2 a0).bind fun t0 =>
  (pLenL (cGet t0 1)).bind fun t1 =>
  L131_0 (vi 0) (cGet t0 1) t1 (vi 0) :=
  (G_eq rfl Tryz.func131 rfl rfl).trans (by kernel_rfl)
theorem l131_0 (x0 x1 x2 x3 : A) : L131_0 x0 x1 x2 x3 =
  (pBin .lss false x3 x2).bind fun t2 =>
  (pBool t2).bind fun t3 =>
  brn t3 (
    (pIndexAddr 2 x1 x3).bind fun t4 =>
    (pLoadN 2 t4).bind fun t5 =>
    (pCells 2 t5).bind fun t6 =>
    ((G 131 [A.agg [cGet t6 0, cGet t6 1]]).bind (fin false)).bind fun t7 =>
    (pMax x0 t7).bind fun t8 =>
    (pBin .add false x3 (vi 1)).bind fun t9 =>
    L131_0 t8 x1 x2 t9) (
    (pBin .add false x0 (vi 1)).bind fun t10 =>
    some ((t10, []))) :=
  (H_eq Tryz.func131 rfl).trans (by kernel_rfl)
theorem g132 (a0 : A) : G 132 [a0] =
  (pLenS a0).bind fun t0 =>
  L132_0 a0 t0 (vi 0) :=
  (G_eq rfl Tryz.func132 rfl rfl).trans (by kernel_rfl)
theorem l132_0 (x0 x1 x2 : A) : L132_0 x0 x1 x2 =
  (pBin .lss false x2 x1).bind fun t1 =>
  (pBool t1).bind fun t2 =>
  brn t2 (
    (pBin .eql false x2 (vi 0)).bind fun t3 =>
    (pG t3 true (some x0)).bind fun t4 =>
    (pG t3 true (some x2)).bind fun t5 =>
    (pG t3 true (pIndexS t4 t5)).bind fun t6 =>
    (pG t3 true ((G 117 [t6]).bind (fin false))).bind fun t7 =>
    (pG t3 true (pUn .not t7)).bind fun t8 =>
    (pPick t3 t8 (vb false)).bind fun t9 =>
    (pG t9 false (some x2)).bind fun t10 =>
    (pG t9 false (pBin .gtr false t10 (vi 0))).bind fun t11 =>
    (pG t9 false (some t11)).bind fun t12 =>
    (pG t12 true (some x0)).bind fun t13 =>
    (pG t12 true (some x2)).bind fun t14 =>
    (pG t12 true (pIndexS t13 t14)).bind fun t15 =>
    (pG t12 true ((G 111 [t15]).bind (fin false))).bind fun t16 =>
    (pG t12 true (pUn .not t16)).bind fun t17 =>
    (pG t9 false (pPick t12 t17 (vb false))).bind fun t18 =>
    (pG t9 false (some t18)).bind fun t19 =>
    (pG t19 true (some x0)).bind fun t20 =>
    (pG t19 true (some x2)).bind fun t21 =>
    (pG t19 true (pIndexS t20 t21)).bind fun t22 =>
    (pG t19 true ((G 112 [t22]).bind (fin false))).bind fun t23 =>
    (pG t19 true (pUn .not t23)).bind fun t24 =>
    (pG t9 false (pPick t19 t24 (vb false))).bind fun t25 =>
    (pPick t9 (vb true) t25).bind fun t26 =>
    (pBool t26).bind fun t27 =>
    brn t27 (
      some ((vb false, []))) (
      (pBin .add false x2 (vi 1)).bind fun t28 =>
      L132_0 x0 x1 t28)) (
    (pLenS x0).bind fun t29 =>
    ((G 77 [t29, vi 1, vi 4]).bind (fin false)).bind fun t30 =>
    some ((t30, []))) :=
  (H_eq Tryz.func132 rfl).trans (by kernel_rfl)
theorem g133 (a0 : A) : G 133 [a0] =
  (pCells 2 a0).bind fun t0 =>
  ((G 123 [A.agg [cGet t0 0, cGet t0 1]]).bind (fin false)).bind fun t1 =>
  (pUn .not t1).bind fun t2 =>
  some ((t2, [])) :=
  (G_eq rfl Tryz.func133 rfl rfl).trans (by kernel_rfl)
theorem g134 (a0 a1 : A) : G 134 [a0, a1] =
  (pBin .gtr false a0 a1).bind fun t0 =>
  (pBool t0).bind fun t1 =>
  brn t1 (
    some ((a0, []))) (
    some ((a1, []))) :=
  (G_eq rfl Tryz.func134 rfl rfl).trans (by kernel_rfl)
theorem g135 (a0 a1 : A) : G 135 [a0, a1] =
  L135_0 a0 a1 (vi 0) :=
  (G_eq rfl Tryz.func135 rfl rfl).trans (by kernel_rfl)
theorem l135_0 (x0 x1 x2 : A) : L135_0 x0 x1 x2 =
  (pLenL x0).bind fun t0 =>
  (pBin .lss false x2 t0).bind fun t1 =>
  (pG t1 true (some x0)).bind fun t2 =>
  (pG t1 true (some x2)).bind fun t3 =>
  (pG t1 true (pIndexAddr 1 t2 t3)).bind fun t4 =>
  (pG t1 true (pLoadP t4)).bind fun t5 =>
  (pG t1 true (some x1)).bind fun t6 =>
  (pG t1 true (pBin .lss false t5 t6)).bind fun t7 =>
  (pPick t1 t7 (vb false)).bind fun t8 =>
  (pBool t8).bind fun t9 =>
  brn t9 (
    (pBin .add false x2 (vi 1)).bind fun t10 =>
    L135_0 x0 x1 t10) (
    (pLenL x0).bind fun t11 =>
    (pBin .lss false x2 t11).bind fun t12 =>
    (pG t12 true (some x0)).bind fun t13 =>
    (pG t12 true (some x2)).bind fun t14 =>
    (pG t12 true (pIndexAddr 1 t13 t14)).bind fun t15 =>
    (pG t12 true (pLoadP t15)).bind fun t16 =>
    (pG t12 true (some x1)).bind fun t17 =>
    (pG t12 true (pBin .eql false t16 t17)).bind fun t18 =>
    (pPick t12 t18 (vb false)).bind fun t19 =>
    (pBool t19).bind fun t20 =>
    brn t20 (
      some ((x0, []))) (
      (pSlice 1 x0 none (some x2)).bind fun t21 =>
      (pRows 1 t21).bind fun t22 =>
      brn (pFit (rLenN t22) 16) (
        brn (okA x1) (
          brn (pFit ((rLenN t22) + (rLenN [[x1]])) 16) (
            (pSlice 1 x0 (some x2) none).bind fun t23 =>
            (pRows 1 t23).bind fun t24 =>
            brn (pFit ((rLenN (rApp t22 [[x1]])) + (rLenN t24)) 16) (
              some ((A.sl 1 (rApp (rApp t22 [[x1]]) t24), []))) (
              none)) (
            none)) (
          none)) (
        none))) :=
  (H_eq Tryz.func135 rfl).trans (by kernel_rfl)
end Go.Proofs.YtheaeglaebimoaaGreat
