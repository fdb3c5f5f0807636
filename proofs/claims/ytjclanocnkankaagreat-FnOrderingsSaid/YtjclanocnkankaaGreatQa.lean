/- WRITTEN BY A PROGRAM (gen.py): what functions come to, as equations. -/
import Derived.Test.YtjclanocnkankaaGreatK
import Derived.KernelRfl
set_option linter.unusedVariables false
namespace Go.Proofs.YtjclanocnkankaaGreat
open Go Go.RowKit Go.Proofs.YtjclanocnkankaaGreat.Abs
noncomputable def C12_0 (x0 x1 x2 : A) : Option Out := MM K (.callv 12 [V.agg [V.d x0, V.d x1, V.d x2]] [])
noncomputable def C13_0 (x0 x1 : A) : Option Out := MM K (.callv 13 [V.agg [V.d x0, V.d x1]] [])
noncomputable def C13_1 (x0 : A) : Option Out := MM K (.callv 13 [V.d x0] [])
noncomputable def C17_0 (x0 x1 : A) (r0 r1 : List (List A)) : Option Out := MM K (.callv 17 [V.agg [V.row 0, V.row 1, V.d x0], V.d x1] [.row 1 r0, .row 1 r1])
noncomputable def L20_0 (x0 x1 x2 : A) : Option Out := MM K (.head 20 [1, 1, 1, 0, 1, 0] [V.d x0, V.d x1, V.top, V.top, V.top, V.d x2, V.top, V.top, V.top, V.top, V.top, V.top, V.top, V.top, V.top, V.top, V.top, V.top, V.top, V.top, V.top, V.top, V.top, V.top, V.top, V.top, V.top] [] none)
noncomputable def C22_0 (x0 : A) : Option Out := MM K (.callv 22 [V.d x0] [])
noncomputable def L22c0_0 (x0 x1 : A) (r0 : List (List A)) : Option Out := MM K (.head 22 [1, 1, 0, 1, 0] [V.d x0, V.top, V.top, V.row 0, V.d x1, V.top, V.top, V.top, V.top, V.top, V.top, V.top, V.top, V.top, V.top, V.top, V.top, V.top, V.top, V.top, V.top, V.top, V.top] [.tre false 2 r0] (some []))
noncomputable def L24_0 (x0 x1 x2 : A) : Option Out := MM K (.head 24 [1, 1, 0, 1, 0] [V.d x0, V.d x1, V.top, V.top, V.top, V.d x2, V.top, V.top, V.top, V.top, V.top, V.top, V.top, V.top, V.top, V.top, V.top, V.top, V.top, V.top, V.top, V.top, V.top, V.top, V.top, V.top, V.top] [] none)
noncomputable def C27_0 (x0 : A) (r0 : List (List A)) : Option Out := MM K (.callv 27 [V.row 0, V.d x0] [.tre true 2 r0])
noncomputable def L27c0_0 (x0 x1 : A) (r0 : List (List A)) : Option Out := MM K (.head 27 [1, 0, 1, 0] [V.row 0, V.d x0, V.top, V.top, V.top, V.d x1, V.top, V.top, V.top, V.top, V.top, V.top, V.top, V.top, V.top, V.top, V.top, V.top, V.top, V.top, V.top, V.top, V.top, V.top, V.top, V.top, V.top, V.top] [.tre true 2 r0] (some [0]))
noncomputable def C29_0 (x0 x1 : A) : Option Out := MM K (.callv 29 [V.d x0, V.d x1] [])
noncomputable def L29c0_0 (x0 x1 x2 x3 x4 : A) (r0 : List (List A)) : Option Out := MM K (.head 29 [1, 1, 1, 0, 1, 0] [V.top, V.top, V.ptr 0 0, V.ptr 1 0, V.top, V.top, V.row 2, V.d x0, V.top, V.top, V.top, V.top, V.top, V.top, V.top, V.top, V.top, V.top, V.top, V.top, V.top, V.top, V.top, V.top, V.top, V.top, V.top, V.top, V.top, V.top, V.top, V.top, V.top, V.top, V.top, V.top, V.top, V.top, V.top, V.top, V.top, V.top, V.top, V.top, V.top, V.top, V.top, V.top, V.top, V.top, V.top, V.top, V.top, V.top, V.top, V.top, V.top, V.top, V.top, V.top, V.top, V.top, V.top, V.top, V.top, V.top, V.top, V.top, V.top, V.top, V.top, V.top, V.top, V.top, V.top, V.top, V.top, V.top, V.top, V.top, V.top, V.top] [.box [V.d x1, V.d x2, V.d x3], .box [V.d x4], .row 1 r0] (some []))
noncomputable def L29c0_1 (x0 x1 x2 x3 : A) (r0 r1 : List (List A)) : Option Out := MM K (.head 29 [1, 1, 1, 1, 1, 0, 1, 0] [V.top, V.top, V.ptr 0 0, V.top, V.top, V.top, V.row 1, V.top, V.top, V.top, V.row 2, V.d x0, V.top, V.top, V.top, V.top, V.top, V.top, V.top, V.top, V.top, V.top, V.top, V.top, V.top, V.top, V.top, V.top, V.top, V.top, V.top, V.top, V.top, V.top, V.top, V.top, V.top, V.top, V.top, V.top, V.top, V.top, V.top, V.top, V.top, V.top, V.top, V.top, V.top, V.top, V.top, V.top, V.top, V.top, V.top, V.top, V.top, V.top, V.top, V.top, V.top, V.top, V.top, V.top, V.top, V.top, V.top, V.top, V.top, V.top, V.top, V.top, V.top, V.top, V.top, V.top, V.top, V.top, V.top, V.top, V.top, V.top] [.box [V.d x1, V.d x2, V.d x3], .row 1 r0, .row 1 r1] (some []))
noncomputable def L29c0_2 (x0 x1 x2 x3 x4 x5 : A) (r0 r1 : List (List A)) : Option Out := MM K (.head 29 [1, 1, 1, 1, 1, 0, 1, 0, 0, 1, 0, 0, 1, 0, 1, 0] [V.top, V.top, V.ptr 0 0, V.top, V.top, V.top, V.row 1, V.top, V.top, V.top, V.row 2, V.d x0, V.d x1, V.d x2, V.top, V.top, V.top, V.top, V.top, V.top, V.top, V.top, V.top, V.top, V.top, V.top, V.top, V.top, V.top, V.top, V.top, V.top, V.top, V.top, V.top, V.top, V.top, V.top, V.top, V.top, V.top, V.top, V.top, V.top, V.top, V.top, V.top, V.top, V.top, V.top, V.top, V.top, V.top, V.top, V.top, V.top, V.top, V.top, V.top, V.top, V.top, V.top, V.top, V.top, V.top, V.top, V.top, V.top, V.top, V.top, V.top, V.top, V.top, V.top, V.top, V.top, V.top, V.top, V.top, V.top, V.top, V.top] [.box [V.d x3, V.d x4, V.d x5], .row 1 r0, .row 1 r1] (some []))
noncomputable def C30_0 (x0 : A) : Option Out := MM K (.callv 30 [V.agg [V.d x0]] [])
noncomputable def C31_0 (x0 x1 : A) : Option Out := MM K (.callv 31 [V.d x0, V.d x1] [])
noncomputable def L32_0 (x0 x1 x2 : A) : Option Out := MM K (.head 32 [1, 1, 0, 1, 0] [V.d x0, V.d x1, V.top, V.top, V.top, V.d x2, V.top, V.top, V.top, V.top, V.top, V.top, V.top, V.top, V.top, V.top, V.top, V.top, V.top, V.top, V.top, V.top, V.top, V.top, V.top, V.top] [] none)
noncomputable def C34_0 (x0 : A) (r0 : List (List A)) : Option Out := MM K (.callv 34 [V.agg [V.row 0], V.d x0] [.tre true 3 r0])
noncomputable def C35_0 (x0 : A) (r0 : List (List A)) : Option Out := MM K (.callv 35 [V.row 0, V.d x0] [.row 1 r0])
noncomputable def L35c0_0 (x0 x1 : A) (r0 : List (List A)) : Option Out := MM K (.head 35 [1, 0, 1, 0] [V.row 0, V.d x0, V.top, V.top, V.top, V.d x1, V.top, V.top, V.top, V.top, V.top, V.top, V.top, V.top, V.top, V.top, V.top, V.top, V.top] [.row 1 r0] (some [0]))
noncomputable def L36_0 (x0 x1 x2 : A) : Option Out := MM K (.head 36 [1, 0, 1, 0] [V.d x0, V.d x1, V.top, V.top, V.top, V.d x2, V.top, V.top, V.top, V.top, V.top, V.top, V.top, V.top, V.top, V.top, V.top, V.top, V.top, V.top, V.top] [] none)
noncomputable def L47_0 (x0 x1 x2 x3 x4 x5 x6 : A) : Option Out := MM K (.head 47 [1, 1, 1, 0, 1, 0] [V.top, V.top, V.ptr 0 0, V.top, V.top, V.top, V.d x0, V.top, V.top, V.top, V.top, V.top, V.top, V.top, V.top, V.top, V.top, V.top, V.top, V.top, V.d x1, V.d x2, V.d x3, V.top, V.top, V.top, V.top, V.top, V.top, V.top, V.top, V.top, V.top, V.top, V.top, V.top, V.top, V.top, V.top, V.top, V.top, V.top, V.top, V.top, V.top, V.top, V.top, V.top, V.top, V.top, V.top, V.top, V.top, V.top] [.box [V.d x4, V.d x5, V.d x6]] none)
noncomputable def L48_0 (x0 x1 x2 : A) : Option Out := MM K (.head 48 [1, 1, 1, 0, 1, 0] [V.d x0, V.d x1, V.top, V.top, V.top, V.d x2, V.top, V.top, V.top, V.top, V.top, V.top, V.top, V.top, V.top, V.top, V.top, V.top, V.top, V.top, V.top, V.top, V.top, V.top, V.top, V.top, V.top, V.top] [] none)
noncomputable def L50_0 (x0 x1 x2 x3 : A) : Option Out := MM K (.head 50 [1, 1, 0, 1, 0] [V.top, V.ptr 0 0, V.top, V.d x0, V.top, V.top, V.top, V.top, V.top, V.top, V.top, V.top, V.top, V.top, V.top, V.top, V.top, V.top, V.top, V.top, V.top, V.top, V.top, V.top, V.top, V.top, V.top, V.top, V.top, V.top, V.top, V.top, V.top, V.top, V.top, V.top, V.top, V.top, V.top, V.top, V.top, V.top, V.top, V.top, V.top, V.top, V.top, V.top, V.top, V.top, V.top, V.top, V.top, V.top, V.top, V.top, V.top, V.top, V.top, V.top, V.top] [.box [V.d x1, V.d x2, V.d x3]] none)
noncomputable def C54_0 (x0 : A) : Option Out := MM K (.callv 54 [V.d x0] [])
noncomputable def L54c0_0 (x0 x1 : A) (r0 : List (List A)) : Option Out := MM K (.head 54 [1, 1, 0, 1, 0] [V.d x0, V.top, V.top, V.row 0, V.d x1, V.top, V.top, V.top, V.top, V.top, V.top, V.top, V.top, V.top, V.top, V.top, V.top, V.top, V.top, V.top, V.top, V.top] [.row 1 r0] (some []))
noncomputable def C55_0 (x0 : A) : Option Out := MM K (.callv 55 [V.d x0] [])
noncomputable def L55c0_0 (x0 x1 : A) (r0 : List (List A)) : Option Out := MM K (.head 55 [1, 1, 0, 1, 0] [V.d x0, V.top, V.top, V.row 0, V.d x1, V.top, V.top, V.top, V.top, V.top, V.top, V.top, V.top, V.top, V.top, V.top, V.top, V.top, V.top, V.top, V.top, V.top] [.row 1 r0] (some []))
noncomputable def L57_0 (x0 x1 x2 x3 x4 x5 : A) : Option Out := MM K (.head 57 [1, 1, 0, 1, 0] [V.top, V.ptr 0 0, V.top, V.top, V.top, V.top, V.top, V.top, V.top, V.top, V.top, V.top, V.top, V.top, V.top, V.top, V.top, V.top, V.top, V.top, V.top, V.top, V.top, V.top, V.top, V.top, V.d x0, V.d x1, V.d x2, V.top, V.top, V.top, V.top, V.top, V.top, V.top, V.top, V.top, V.top, V.top, V.top, V.top, V.top, V.top, V.top, V.top, V.top, V.top, V.top, V.top, V.top, V.top, V.top, V.top, V.top, V.top] [.box [V.d x3, V.d x4, V.d x5]] none)
noncomputable def C59_0 (x0 x1 : A) : Option Out := MM K (.callv 59 [V.agg [V.d x0, V.d x1]] [])
noncomputable def L61_0 (x0 x1 x2 : A) : Option Out := MM K (.head 61 [1, 1, 0, 1, 0] [V.d x0, V.d x1, V.top, V.top, V.top, V.d x2, V.top, V.top, V.top, V.top, V.top, V.top, V.top, V.top, V.top, V.top, V.top, V.top, V.top, V.top, V.top, V.top, V.top, V.top, V.top, V.top] [] none)
noncomputable def C62_0 (x0 : A) (r0 : List (List A)) : Option Out := MM K (.callv 62 [V.row 0, V.d x0] [.row 1 r0])
noncomputable def L62c0_0 (x0 x1 : A) (r0 : List (List A)) : Option Out := MM K (.head 62 [1, 0, 1, 0] [V.row 0, V.d x0, V.top, V.top, V.top, V.d x1, V.top, V.top, V.top, V.top, V.top, V.top, V.top, V.top, V.top, V.top, V.top, V.top, V.top, V.top] [.row 1 r0] (some [0]))
noncomputable def L67_0 (x0 x1 x2 x3 x4 : A) : Option Out := MM K (.head 67 [1, 1, 0, 1, 0] [V.top, V.top, V.ptr 0 0, V.ptr 1 0, V.top, V.d x0, V.top, V.top, V.top, V.top, V.top, V.top, V.top, V.top, V.top, V.top, V.top, V.top, V.top, V.top, V.top, V.top, V.top, V.top, V.top, V.top, V.top, V.top, V.top, V.top, V.top, V.top, V.top, V.top, V.top, V.top, V.top, V.top, V.top] [.box [V.d x1, V.d x2], .box [V.d x3, V.d x4]] none)
noncomputable def L75_0 (x0 x1 : A) : Option Out := MM K (.head 75 [1, 1, 1, 0, 0] [V.d x0, V.top, V.top, V.d x1, V.top, V.top, V.top, V.top, V.top, V.top, V.top, V.top, V.top, V.top, V.top, V.top, V.top, V.top, V.top, V.top] [] none)
noncomputable def L76_0 (x0 x1 x2 : A) : Option Out := MM K (.head 76 [1, 1, 1, 0, 1, 0] [V.d x0, V.d x1, V.top, V.top, V.top, V.d x2, V.top, V.top, V.top, V.top, V.top, V.top, V.top, V.top, V.top, V.top, V.top, V.top, V.top, V.top, V.top, V.top, V.top, V.top, V.top, V.top, V.top] [] none)
noncomputable def L77_0 (x0 x1 x2 x3 x4 x5 x6 x7 : A) (r0 : List (List A)) : Option Out := MM K (.head 77 [1, 1, 1, 1, 1, 0, 1, 0] [V.top, V.top, V.ptr 0 0, V.ptr 1 0, V.top, V.top, V.d x0, V.row 2, V.d x1, V.top, V.top, V.top, V.top, V.top, V.top, V.top, V.top, V.top, V.top, V.top, V.top, V.top, V.top, V.top, V.top, V.top, V.top, V.top, V.top, V.top, V.top, V.top, V.top, V.top, V.top, V.top, V.top, V.top, V.top, V.top, V.top, V.top, V.top, V.top, V.top, V.top, V.top, V.top, V.top, V.top, V.top, V.top, V.top, V.top, V.top, V.top, V.top, V.top, V.top, V.top, V.top, V.top, V.top, V.top] [.box [V.d x2, V.d x3, V.d x4], .box [V.d x5, V.d x6, V.d x7], .row 2 r0] none)
noncomputable def L77_1 (x0 x1 x2 x3 x4 x5 x6 : A) (r0 r1 : List (List A)) : Option Out := MM K (.head 77 [1, 1, 1, 1, 1, 0, 1, 0] [V.top, V.top, V.ptr 0 0, V.ptr 1 0, V.top, V.top, V.row 2, V.row 3, V.d x0, V.top, V.top, V.top, V.top, V.top, V.top, V.top, V.top, V.top, V.top, V.top, V.top, V.top, V.top, V.top, V.top, V.top, V.top, V.top, V.top, V.top, V.top, V.top, V.top, V.top, V.top, V.top, V.top, V.top, V.top, V.top, V.top, V.top, V.top, V.top, V.top, V.top, V.top, V.top, V.top, V.top, V.top, V.top, V.top, V.top, V.top, V.top, V.top, V.top, V.top, V.top, V.top, V.top, V.top, V.top] [.box [V.d x1, V.d x2, V.d x3], .box [V.d x4, V.d x5, V.d x6], .row 2 r0, .row 2 r1] none)
noncomputable def L78_0 (x0 x1 x2 x3 x4 x5 x6 x7 : A) : Option Out := MM K (.head 78 [1, 1, 1, 0, 1, 0] [V.top, V.top, V.top, V.ptr 0 0, V.top, V.top, V.top, V.d x0, V.d x1, V.d x2, V.d x3, V.d x4, V.top, V.top, V.top, V.top, V.top, V.top, V.top, V.top, V.top, V.top, V.top, V.top, V.top, V.top, V.top, V.top, V.top, V.top, V.top, V.top, V.top, V.top, V.top, V.top, V.top, V.top, V.top, V.top, V.top, V.top, V.top, V.top, V.top, V.top, V.top, V.top, V.top, V.top, V.top, V.top, V.top, V.top, V.top, V.top, V.top, V.top, V.top, V.top, V.top, V.top, V.top, V.top, V.top, V.top, V.top, V.top, V.top, V.top, V.top, V.top, V.top, V.top, V.top, V.top, V.top, V.top, V.top, V.top, V.top, V.top, V.top, V.top, V.top, V.top, V.top, V.top, V.top, V.top] [.box [V.d x5, V.d x6, V.d x7]] none)
noncomputable def L78_1 (x0 x1 x2 x3 x4 x5 x6 x7 x8 x9 : A) : Option Out := MM K (.head 78 [1, 1, 1, 0, 1, 0, 0, 1, 0, 0, 1, 0, 1, 0] [V.top, V.top, V.top, V.ptr 0 0, V.top, V.top, V.top, V.d x0, V.d x1, V.d x2, V.d x3, V.d x4, V.d x5, V.d x6, V.top, V.top, V.top, V.top, V.top, V.top, V.top, V.top, V.top, V.top, V.top, V.top, V.top, V.top, V.top, V.top, V.top, V.top, V.top, V.top, V.top, V.top, V.top, V.top, V.top, V.top, V.top, V.top, V.top, V.top, V.top, V.top, V.top, V.top, V.top, V.top, V.top, V.top, V.top, V.top, V.top, V.top, V.top, V.top, V.top, V.top, V.top, V.top, V.top, V.top, V.top, V.top, V.top, V.top, V.top, V.top, V.top, V.top, V.top, V.top, V.top, V.top, V.top, V.top, V.top, V.top, V.top, V.top, V.top, V.top, V.top, V.top, V.top, V.top, V.top, V.top] [.box [V.d x7, V.d x8, V.d x9]] none)
noncomputable def L78_2 (x0 x1 x2 x3 x4 x5 x6 x7 : A) : Option Out := MM K (.head 78 [1, 1, 1, 1, 0, 1, 0] [V.top, V.top, V.top, V.ptr 0 0, V.top, V.top, V.top, V.d x0, V.d x1, V.d x2, V.d x3, V.top, V.top, V.top, V.d x4, V.top, V.top, V.top, V.top, V.top, V.top, V.top, V.top, V.top, V.top, V.top, V.top, V.top, V.top, V.top, V.top, V.top, V.top, V.top, V.top, V.top, V.top, V.top, V.top, V.top, V.top, V.top, V.top, V.top, V.top, V.top, V.top, V.top, V.top, V.top, V.top, V.top, V.top, V.top, V.top, V.top, V.top, V.top, V.top, V.top, V.top, V.top, V.top, V.top, V.top, V.top, V.top, V.top, V.top, V.top, V.top, V.top, V.top, V.top, V.top, V.top, V.top, V.top, V.top, V.top, V.top, V.top, V.top, V.top, V.top, V.top, V.top, V.top, V.top, V.top] [.box [V.d x5, V.d x6, V.d x7]] none)
noncomputable def L78_3 (x0 x1 x2 x3 x4 x5 x6 x7 x8 x9 : A) : Option Out := MM K (.head 78 [1, 1, 1, 1, 0, 1, 0, 0, 1, 0, 0, 1, 0, 1, 0] [V.top, V.top, V.top, V.ptr 0 0, V.top, V.top, V.top, V.d x0, V.d x1, V.d x2, V.d x3, V.top, V.top, V.top, V.d x4, V.d x5, V.d x6, V.top, V.top, V.top, V.top, V.top, V.top, V.top, V.top, V.top, V.top, V.top, V.top, V.top, V.top, V.top, V.top, V.top, V.top, V.top, V.top, V.top, V.top, V.top, V.top, V.top, V.top, V.top, V.top, V.top, V.top, V.top, V.top, V.top, V.top, V.top, V.top, V.top, V.top, V.top, V.top, V.top, V.top, V.top, V.top, V.top, V.top, V.top, V.top, V.top, V.top, V.top, V.top, V.top, V.top, V.top, V.top, V.top, V.top, V.top, V.top, V.top, V.top, V.top, V.top, V.top, V.top, V.top, V.top, V.top, V.top, V.top, V.top, V.top] [.box [V.d x7, V.d x8, V.d x9]] none)
noncomputable def C79_0 (x0 : A) : Option Out := MM K (.callv 79 [V.d x0] [])
noncomputable def L79c0_0 (x0 x1 : A) (r0 : List (List A)) : Option Out := MM K (.head 79 [1, 1, 0, 1, 0] [V.d x0, V.top, V.top, V.row 0, V.d x1, V.top, V.top, V.top, V.top, V.top, V.top, V.top, V.top, V.top, V.top, V.top, V.top, V.top, V.top, V.top, V.top, V.top, V.top] [.tre false 3 r0] (some []))
noncomputable def C81_0 (x0 x1 x2 x3 : A) : Option Out := MM K (.callv 81 [V.agg [V.d x0, V.d x1, V.d x2], V.agg [V.d x3]] [])
noncomputable def L81c0_0 (x0 x1 x2 x3 x4 x5 x6 : A) (r0 : List (List A)) : Option Out := MM K (.head 81 [1, 1, 0, 1, 0] [V.top, V.top, V.ptr 0 0, V.ptr 1 0, V.top, V.row 2, V.top, V.top, V.top, V.top, V.d x0, V.d x1, V.d x2, V.top, V.top, V.top, V.top, V.top, V.top, V.top, V.top, V.top, V.top, V.top, V.top, V.top, V.top, V.top] [.box [V.d x3, V.d x4, V.d x5], .box [V.d x6], .row 1 r0] (some []))
noncomputable def L82_0 (x0 x1 x2 : A) : Option Out := MM K (.head 82 [1, 1, 0, 1, 0] [V.d x0, V.d x1, V.top, V.top, V.top, V.d x2, V.top, V.top, V.top, V.top, V.top, V.top, V.top, V.top, V.top, V.top, V.top, V.top, V.top, V.top, V.top, V.top, V.top, V.top, V.top, V.top, V.top] [] none)
noncomputable def C83_0 (x0 : A) (r0 : List (List A)) : Option Out := MM K (.callv 83 [V.row 0, V.d x0] [.tre true 3 r0])
noncomputable def L83c0_0 (x0 x1 : A) (r0 : List (List A)) : Option Out := MM K (.head 83 [1, 0, 1, 0] [V.row 0, V.d x0, V.top, V.top, V.top, V.d x1, V.top, V.top, V.top, V.top, V.top, V.top, V.top, V.top, V.top, V.top, V.top, V.top, V.top, V.top, V.top, V.top, V.top, V.top, V.top, V.top, V.top, V.top, V.top, V.top, V.top, V.top, V.top, V.top, V.top, V.top, V.top, V.top, V.top] [.tre true 3 r0] (some [0]))
noncomputable def L93_0 (x0 x1 x2 x3 x4 x5 x6 x7 : A) : Option Out := MM K (.head 93 [1, 1, 0, 1, 0] [V.top, V.top, V.top, V.ptr 0 0, V.ptr 1 0, V.ptr 2 0, V.top, V.d x0, V.top, V.top, V.top, V.top, V.top, V.top, V.top, V.top, V.top, V.top, V.top, V.top, V.top, V.top, V.top, V.top, V.top, V.top, V.top, V.top, V.top, V.top, V.top, V.top, V.top, V.top, V.top, V.top, V.top, V.top, V.top, V.top, V.top, V.top, V.top, V.top, V.top, V.top, V.top, V.top, V.top, V.top, V.top, V.top, V.top, V.top, V.top, V.top, V.top, V.top, V.top, V.top, V.top, V.top, V.top, V.top, V.top, V.top, V.top, V.top, V.top, V.top, V.top, V.top, V.top, V.top, V.top, V.top, V.top, V.top, V.top, V.top, V.top, V.top, V.top, V.top] [.box [V.d x1, V.d x2, V.d x3], .box [V.d x4, V.d x5], .box [V.d x6, V.d x7]] none)
noncomputable def L93_1 (x0 x1 x2 x3 x4 x5 x6 x7 x8 : A) : Option Out := MM K (.head 93 [1, 1, 1, 1, 1, 1, 0, 1, 0] [V.top, V.top, V.top, V.ptr 0 0, V.ptr 1 0, V.ptr 2 0, V.top, V.top, V.d x0, V.d x1, V.top, V.top, V.top, V.top, V.top, V.top, V.top, V.top, V.top, V.top, V.top, V.top, V.top, V.top, V.top, V.top, V.top, V.top, V.top, V.top, V.top, V.top, V.top, V.top, V.top, V.top, V.top, V.top, V.top, V.top, V.top, V.top, V.top, V.top, V.top, V.top, V.top, V.top, V.top, V.top, V.top, V.top, V.top, V.top, V.top, V.top, V.top, V.top, V.top, V.top, V.top, V.top, V.top, V.top, V.top, V.top, V.top, V.top, V.top, V.top, V.top, V.top, V.top, V.top, V.top, V.top, V.top, V.top, V.top, V.top, V.top, V.top, V.top, V.top] [.box [V.d x2, V.d x3, V.d x4], .box [V.d x5, V.d x6], .box [V.d x7, V.d x8]] none)
noncomputable def L96_0 (x0 x1 x2 x3 x4 x5 x6 x7 x8 x9 : A) : Option Out := MM K (.head 96 [1, 0, 1, 0] [V.top, V.top, V.top, V.ptr 0 0, V.ptr 1 0, V.ptr 2 0, V.top, V.top, V.top, V.top, V.top, V.top, V.top, V.top, V.top, V.d x0, V.d x1, V.d x2, V.top, V.top, V.top, V.top, V.top, V.top, V.top, V.top, V.top, V.top, V.top, V.top, V.top, V.top, V.top, V.top, V.top, V.top, V.top, V.top, V.top, V.top, V.top, V.top, V.top, V.top, V.top, V.top, V.top, V.top, V.top, V.top, V.top, V.top, V.top, V.top, V.top, V.top, V.top, V.top, V.top, V.top, V.top, V.top, V.top, V.top, V.top, V.top, V.top] [.box [V.d x3, V.d x4, V.d x5], .box [V.d x6, V.d x7], .box [V.d x8, V.d x9]] none)
noncomputable def L98_0 (x0 x1 : A) : Option Out := MM K (.head 98 [1, 1, 1, 0, 1, 0] [V.d x0, V.top, V.top, V.d x1, V.top, V.top, V.top, V.top, V.top, V.top, V.top, V.top, V.top, V.top, V.top, V.top, V.top, V.top, V.top, V.top, V.top, V.top, V.top, V.top, V.top, V.top, V.top, V.top, V.top, V.top, V.top, V.top, V.top, V.top, V.top, V.top, V.top, V.top, V.top, V.top, V.top, V.top, V.top, V.top, V.top] [] none)
noncomputable def L99_0 (x0 x1 x2 : A) : Option Out := MM K (.head 99 [1, 0, 1, 0] [V.d x0, V.d x1, V.top, V.top, V.top, V.d x2, V.top, V.top, V.top, V.top, V.top, V.top, V.top, V.top, V.top, V.top, V.top, V.top] [] none)
noncomputable def L100_0 (x0 x1 x2 x3 x4 x5 : A) : Option Out := MM K (.head 100 [1, 1, 0, 1, 0] [V.top, V.top, V.ptr 0 0, V.ptr 1 0, V.top, V.d x0, V.top, V.top, V.top, V.top, V.top, V.top, V.top, V.top, V.top, V.top, V.top, V.top, V.top, V.top, V.top, V.top, V.top, V.top, V.top, V.top, V.top, V.top, V.top, V.top, V.top, V.top] [.box [V.d x1, V.d x2, V.d x3], .box [V.d x4, V.d x5]] none)
noncomputable def L101_0 (x0 x1 x2 x3 x4 x5 : A) : Option Out := MM K (.head 101 [1, 1, 0, 1, 0] [V.top, V.top, V.ptr 0 0, V.ptr 1 0, V.top, V.d x0, V.d x1, V.top, V.top, V.top, V.top, V.top, V.top, V.top, V.top, V.top, V.top, V.top, V.top, V.top, V.top, V.top, V.top, V.top, V.top, V.top, V.top, V.top] [.box [V.d x2, V.d x3], .box [V.d x4, V.d x5]] none)
noncomputable def L102_0 (x0 x1 x2 x3 x4 x5 x6 : A) : Option Out := MM K (.head 102 [1, 1, 1, 0, 1, 0] [V.top, V.top, V.ptr 0 0, V.ptr 1 0, V.top, V.d x0, V.d x1, V.top, V.top, V.top, V.top, V.top, V.top, V.top, V.top, V.top, V.top, V.top, V.top, V.top, V.top, V.top, V.top, V.top, V.top, V.top, V.top, V.top, V.top, V.top, V.top, V.top, V.top, V.top, V.top, V.top, V.top, V.top] [.box [V.d x2, V.d x3, V.d x4], .box [V.d x5, V.d x6]] none)
noncomputable def L103_0 (x0 x1 : A) : Option Out := MM K (.head 103 [1, 1, 0, 1, 0] [V.d x0, V.top, V.top, V.d x1, V.top, V.top, V.top, V.top, V.top, V.top, V.top, V.top, V.top, V.top, V.top, V.top, V.top, V.top, V.top, V.top, V.top, V.top, V.top, V.top, V.top, V.top, V.top, V.top, V.top] [] none)
noncomputable def L105_0 (x0 x1 x2 x3 x4 : A) : Option Out := MM K (.head 105 [1, 0, 1, 0] [V.top, V.top, V.ptr 0 0, V.ptr 1 0, V.top, V.d x0, V.top, V.top, V.top, V.top, V.top, V.top, V.top, V.top, V.top, V.top, V.top, V.top, V.top, V.top, V.top, V.top, V.top, V.top, V.top, V.top] [.box [V.d x1, V.d x2], .box [V.d x3, V.d x4]] none)
noncomputable def L107_0 (x0 x1 x2 : A) : Option Out := MM K (.head 107 [1, 0, 1, 0] [V.d x0, V.top, V.top, V.top, V.top, V.d x1, V.d x2, V.top, V.top, V.top, V.top, V.top, V.top, V.top, V.top, V.top, V.top, V.top, V.top, V.top, V.top, V.top, V.top, V.top, V.top, V.top, V.top, V.top, V.top, V.top, V.top, V.top, V.top, V.top, V.top, V.top, V.top, V.top, V.top, V.top, V.top, V.top, V.top, V.top, V.top, V.top, V.top, V.top] [] none)
noncomputable def C110_0 (x0 : A) : Option Out := MM K (.callv 110 [V.d x0] [])
noncomputable def L110c0_0 (x0 x1 x2 : A) (r0 : List (List A)) : Option Out := MM K (.head 110 [1, 1, 1, 0, 1, 0] [V.top, V.top, V.top, V.row 0, V.top, V.top, V.top, V.top, V.top, V.top, V.top, V.top, V.d x0, V.d x1, V.d x2, V.top, V.top, V.top, V.top, V.top, V.top, V.top, V.top, V.top, V.top, V.top] [.row 2 r0] (some []))
noncomputable def L114_0 (x0 x1 x2 : A) : Option Out := MM K (.head 114 [1, 1, 1, 0, 1, 0] [V.top, V.ptr 0 0, V.top, V.d x0, V.top, V.top, V.top, V.top, V.top, V.top, V.top, V.top, V.top, V.top, V.top, V.top, V.top, V.top, V.top, V.top, V.top, V.top, V.top, V.top, V.top, V.top, V.top, V.top, V.top, V.top, V.top, V.top, V.top, V.top, V.top] [.box [V.d x1, V.d x2]] none)
noncomputable def L120_0 (x0 x1 x2 x3 x4 : A) : Option Out := MM K (.head 120 [1, 1, 0, 1, 0] [V.top, V.d x0, V.d x1, V.top, V.top, V.top, V.top, V.top, V.top, V.top, V.top, V.top, V.top, V.top, V.top, V.d x2, V.d x3, V.d x4, V.top, V.top, V.top, V.top, V.top, V.top, V.top, V.top, V.top, V.top, V.top, V.top, V.top, V.top] [] none)
noncomputable def L126_0 (x0 x1 x2 : A) (r0 r1 : List (List A)) : Option Out := MM K (.head 126 [1, 1, 1, 0, 1, 0] [V.d x0, V.d x1, V.top, V.top, V.top, V.row 0, V.row 1, V.d x2, V.top, V.top, V.top, V.top, V.top, V.top, V.top, V.top, V.top, V.top, V.top, V.top, V.top, V.top, V.top, V.top, V.top, V.top, V.top, V.top, V.top, V.top, V.top, V.top, V.top, V.top, V.top, V.top, V.top, V.top, V.top, V.top, V.top, V.top, V.top, V.top, V.top, V.top, V.top, V.top, V.top, V.top, V.top, V.top, V.top, V.top, V.top, V.top, V.top, V.top, V.top, V.top] [.row 1 r0, .row 2 r1] none)
noncomputable def L126_1 (x0 x1 x2 x3 x4 : A) (r0 r1 : List (List A)) : Option Out := MM K (.head 126 [1, 1, 1, 0, 1, 0, 0, 1, 0, 0, 1, 0, 1, 0] [V.d x0, V.d x1, V.top, V.top, V.top, V.row 0, V.row 1, V.d x2, V.d x3, V.d x4, V.top, V.top, V.top, V.top, V.top, V.top, V.top, V.top, V.top, V.top, V.top, V.top, V.top, V.top, V.top, V.top, V.top, V.top, V.top, V.top, V.top, V.top, V.top, V.top, V.top, V.top, V.top, V.top, V.top, V.top, V.top, V.top, V.top, V.top, V.top, V.top, V.top, V.top, V.top, V.top, V.top, V.top, V.top, V.top, V.top, V.top, V.top, V.top, V.top, V.top] [.row 1 r0, .row 2 r1] none)
noncomputable def C128_0 (x0 : A) : Option Out := MM K (.callv 128 [V.d x0] [])
noncomputable def L144_0 (x0 x1 x2 x3 x4 x5 x6 : A) (r0 r1 : List (List A)) : Option Out := MM K (.head 144 [1, 1, 0, 1, 0] [V.top, V.top, V.top, V.ptr 0 0, V.ptr 1 0, V.ptr 2 0, V.top, V.top, V.top, V.top, V.top, V.top, V.top, V.top, V.top, V.top, V.top, V.top, V.top, V.top, V.top, V.top, V.top, V.top, V.top, V.top, V.d x0, V.d x1, V.d x2, V.top, V.top, V.top, V.top, V.top, V.top, V.top, V.top, V.top, V.top, V.top, V.top, V.top, V.top, V.top, V.top, V.top, V.top, V.top, V.top, V.top] [.box [V.d x3, V.d x4], .box [V.d x5, V.row 3], .box [V.d x6, V.row 4], .row 2 r0, .row 2 r1] none)
noncomputable def L147_0 (x0 x1 x2 x3 x4 : A) : Option Out := MM K (.head 147 [1, 1, 1, 0, 1, 0] [V.top, V.d x0, V.top, V.top, V.top, V.d x1, V.top, V.top, V.top, V.top, V.top, V.top, V.top, V.d x2, V.d x3, V.d x4, V.top, V.top, V.top, V.top, V.top, V.top, V.top, V.top, V.top, V.top] [] none)
noncomputable def L148_0 (x0 x1 x2 x3 x4 x5 x6 : A) : Option Out := MM K (.head 148 [1, 1, 1, 0, 1, 0] [V.top, V.top, V.ptr 0 0, V.top, V.top, V.d x0, V.top, V.top, V.top, V.top, V.top, V.top, V.top, V.top, V.top, V.top, V.top, V.top, V.top, V.top, V.top, V.top, V.d x1, V.d x2, V.d x3, V.top, V.top, V.top, V.top, V.top, V.top, V.top, V.top, V.top, V.top] [.box [V.d x4, V.d x5, V.d x6]] none)
noncomputable def L150_0 (x0 x1 x2 x3 x4 : A) : Option Out := MM K (.head 150 [1, 0, 1, 0] [V.top, V.d x0, V.ptr 0 0, V.top, V.top, V.d x1, V.top, V.top, V.top, V.top, V.top, V.top, V.top, V.top, V.top, V.top, V.top, V.top, V.top, V.top, V.top] [.box [V.d x2, V.d x3, V.d x4]] none)
noncomputable def L152_0 (x0 x1 x2 x3 x4 : A) : Option Out := MM K (.head 152 [1, 1, 1, 0, 1, 0] [V.top, V.d x0, V.ptr 0 0, V.top, V.top, V.d x1, V.d x2, V.top, V.top, V.top, V.top, V.top, V.top, V.top, V.top, V.top, V.top, V.top, V.top, V.top, V.top, V.top, V.top, V.top, V.top, V.top, V.top, V.top] [.box [V.d x3, V.d x4]] none)
noncomputable def L156_0 (x0 x1 x2 x3 : A) : Option Out := MM K (.head 156 [1, 0, 1, 0] [V.d x0, V.d x1, V.top, V.top, V.top, V.top, V.top, V.d x2, V.d x3, V.top, V.top, V.top, V.top, V.top, V.top, V.top, V.top, V.top, V.top] [] none)
noncomputable def L158_0 (x0 x1 x2 x3 x4 : A) : Option Out := MM K (.head 158 [1, 1, 0, 1, 0] [V.top, V.d x0, V.ptr 0 0, V.top, V.top, V.d x1, V.d x2, V.top, V.top, V.top, V.top, V.top, V.top, V.top, V.top, V.top, V.top, V.top, V.top, V.top, V.top, V.top, V.top, V.top, V.top, V.top, V.top, V.top, V.top, V.top, V.top] [.box [V.d x3, V.d x4]] none)
noncomputable def L159_0 (x0 x1 x2 x3 : A) : Option Out := MM K (.head 159 [1, 1, 0, 1, 0] [V.top, V.ptr 0 0, V.top, V.d x0, V.d x1, V.top, V.top, V.top, V.top, V.top, V.top, V.top, V.top, V.top, V.top, V.top, V.top, V.top, V.top, V.top, V.top, V.top] [.box [V.d x2, V.d x3]] none)
noncomputable def L167_0 (x0 x1 x2 x3 : A) : Option Out := MM K (.head 167 [1, 1, 0, 1, 0] [V.top, V.top, V.top, V.d x0, V.top, V.top, V.top, V.d x1, V.d x2, V.d x3, V.top, V.top, V.top, V.top, V.top, V.top, V.top, V.top, V.top, V.top, V.top, V.top] [] none)
noncomputable def L168_0 (x0 x1 x2 x3 : A) : Option Out := MM K (.head 168 [1, 1, 0, 1, 0] [V.top, V.top, V.top, V.d x0, V.top, V.top, V.top, V.d x1, V.d x2, V.d x3, V.top, V.top, V.top, V.top, V.top, V.top, V.top, V.top, V.top, V.top] [] none)
noncomputable def L169_0 (x0 x1 x2 : A) : Option Out := MM K (.head 169 [1, 0, 1, 0] [V.d x0, V.top, V.top, V.top, V.top, V.d x1, V.d x2, V.top, V.top, V.top, V.top, V.top, V.top, V.top, V.top, V.top, V.top, V.top, V.top, V.top, V.top, V.top, V.top, V.top, V.top, V.top, V.top, V.top, V.top, V.top, V.top, V.top, V.top, V.top, V.top, V.top, V.top, V.top, V.top, V.top] [] none)
noncomputable def L171_0 (x0 x1 x2 x3 : A) : Option Out := MM K (.head 171 [1, 0, 1, 0] [V.d x0, V.d x1, V.top, V.top, V.top, V.top, V.top, V.d x2, V.d x3, V.top, V.top, V.top, V.top, V.top, V.top, V.top, V.top, V.top, V.top] [] none)
noncomputable def C171_0 (r0 r1 : List (List A)) : Option Out := MM K (.callv 171 [V.row 0, V.fn 194 [V.ptr 1 0]] [.row 2 r0, .box [V.row 2], .row 2 r1])
noncomputable def L171c0_0 (x0 x1 : A) (r0 r1 : List (List A)) : Option Out := MM K (.head 171 [1, 0, 1, 0] [V.row 0, V.fn 194 [V.ptr 1 0], V.top, V.top, V.top, V.top, V.top, V.d x0, V.d x1, V.top, V.top, V.top, V.top, V.top, V.top, V.top, V.top, V.top, V.top] [.row 2 r0, .box [V.row 2], .row 2 r1] (some [0, 1, 2]))
noncomputable def L171c0_1 (x0 x1 : A) (r0 r1 : List (List A)) : Option Out := MM K (.head 171 [1, 0, 1, 0] [V.row 0, V.fn 194 [V.ptr 1 0], V.top, V.top, V.top, V.top, V.top, V.d x0, V.d x1, V.top, V.top, V.top, V.top, V.top, V.top, V.top, V.top, V.top, V.top] [.row 2 r0, .box [V.row 3], .gone, .row 2 r1] (some [0, 1, 2]))
noncomputable def L175_0 (x0 x1 x2 x3 : A) : Option Out := MM K (.head 175 [1, 0, 1, 0] [V.d x0, V.d x1, V.top, V.top, V.top, V.top, V.top, V.d x2, V.d x3, V.top, V.top, V.top, V.top, V.top, V.top, V.top, V.top, V.top, V.top] [] none)
noncomputable def C182_0 (x0 x1 : A) (r0 : List (List A)) : Option Out := MM K (.callv 182 [V.row 0, V.agg [V.d x0, V.d x1]] [.row 1 r0])
noncomputable def L182c0_0 (x0 x1 x2 : A) (r0 : List (List A)) : Option Out := MM K (.head 182 [1, 1, 0, 1, 0] [V.row 0, V.top, V.top, V.top, V.top, V.top, V.top, V.top, V.top, V.top, V.top, V.top, V.top, V.top, V.top, V.top, V.top, V.top, V.top, V.top, V.top, V.top, V.top, V.top, V.top, V.top, V.top, V.d x0, V.d x1, V.d x2, V.top, V.top, V.top, V.top, V.top, V.top, V.top, V.top] [.row 1 r0] (some [0]))
noncomputable def L182c0_1 (x0 x1 x2 : A) (r0 : List (List A)) : Option Out := MM K (.head 182 [1, 1, 0, 1, 0] [V.row 0, V.top, V.top, V.top, V.top, V.top, V.top, V.top, V.top, V.top, V.top, V.top, V.top, V.top, V.top, V.top, V.top, V.top, V.top, V.top, V.top, V.top, V.top, V.top, V.top, V.top, V.top, V.d x0, V.d x1, V.d x2, V.top, V.top, V.top, V.top, V.top, V.top, V.top, V.top] [.row 1 r0, .gone] (some [1]))
noncomputable def C183_0 (r0 : List (List A)) : Option Out := MM K (.callv 183 [V.row 0] [.row 1 r0])
noncomputable def L184_0 (x0 x1 x2 x3 : A) : Option Out := MM K (.head 184 [1, 1, 0, 1, 0] [V.d x0, V.top, V.top, V.ptr 0 0, V.top, V.d x1, V.top, V.top, V.top, V.top, V.top, V.top, V.top, V.top, V.top, V.top, V.top, V.top, V.top, V.top, V.top, V.top, V.top, V.top, V.top, V.top, V.top, V.top] [.box [V.d x2, V.d x3]] none)
noncomputable def C192_0 (x0 : A) : Option Out := MM K (.callv 192 [V.d x0] [])
noncomputable def C193_0 (r0 r1 : List (List A)) : Option Out := MM K (.callv 193 [V.row 0, V.fn 194 [V.ptr 1 0]] [.row 2 r0, .box [V.row 2], .row 2 r1])
noncomputable def L193c0_0 (x0 x1 : A) (r0 r1 : List (List A)) : Option Out := MM K (.head 193 [1, 1, 1, 0, 1, 0] [V.row 0, V.fn 194 [V.ptr 1 0], V.top, V.top, V.top, V.d x0, V.d x1, V.top, V.top, V.top, V.top, V.top, V.top, V.top, V.top, V.top, V.top, V.top, V.top, V.top, V.top, V.top, V.top, V.top, V.top, V.top, V.top, V.top, V.top, V.top, V.top, V.top, V.top, V.top, V.top, V.top, V.top, V.top, V.top, V.top, V.top, V.top] [.row 2 r0, .box [V.row 3], .gone, .row 2 r1] (some [0, 1, 2]))
noncomputable def C194_0 (x0 x1 : A) (r0 : List (List A)) : Option Out := MM K (.callv 194 [V.agg [V.d x0, V.d x1], V.ptr 0 0] [.box [V.row 1], .row 2 r0])
noncomputable def C194_1 (x0 : A) (r0 : List (List A)) : Option Out := MM K (.callv 194 [V.d x0, V.ptr 0 0] [.box [V.row 1], .row 2 r0])
noncomputable def C196_0 (x0 x1 : A) (r0 : List (List A)) : Option Out := MM K (.callv 196 [V.row 0, V.d x0, V.d x1] [.row 2 r0])
noncomputable def C200_0 (r0 : List (List A)) : Option Out := MM K (.callv 200 [V.row 0] [.row 1 r0])
noncomputable def L200c0_0 (x0 x1 x2 : A) (r0 : List (List A)) : Option Out := MM K (.head 200 [1, 1, 0, 1, 0] [V.row 0, V.top, V.top, V.d x0, V.top, V.top, V.top, V.top, V.top, V.row 0, V.d x1, V.d x2, V.top, V.top, V.top, V.top, V.top, V.top, V.top, V.top, V.top, V.top, V.top, V.top, V.top, V.top, V.top, V.top, V.top, V.top, V.top, V.top, V.top, V.top, V.top, V.top] [.row 1 r0] (some [0]))
noncomputable def L200c0_1 (x0 x1 : A) (r0 r1 : List (List A)) : Option Out := MM K (.head 200 [1, 1, 1, 1, 0, 1, 0] [V.top, V.top, V.top, V.top, V.top, V.top, V.row 0, V.top, V.top, V.top, V.top, V.top, V.top, V.top, V.top, V.top, V.top, V.top, V.top, V.top, V.top, V.top, V.top, V.top, V.top, V.row 1, V.d x0, V.d x1, V.top, V.top, V.top, V.top, V.top, V.top, V.top, V.top] [.row 2 r0, .row 1 r1] (some [1]))
noncomputable def L203_0 (x0 x1 x2 : A) : Option Out := MM K (.head 203 [1, 1, 0, 0] [V.d x0, V.d x1, V.top, V.top, V.top, V.d x2, V.top, V.top, V.top, V.top, V.top, V.top, V.top, V.top, V.top, V.top, V.top, V.top, V.top, V.top, V.top, V.top, V.top, V.top, V.top, V.top, V.top, V.top, V.top, V.top, V.top, V.top, V.top, V.top, V.top, V.top, V.top, V.top, V.top, V.top, V.top, V.top, V.top, V.top, V.top] [] none)
noncomputable def C208_0 (x0 : A) : Option Out := MM K (.callv 208 [V.nil 2, V.d x0] [])
theorem g6 (a0 a1 : A) : G 6 [a0, a1] =
  (pCells 3 a0).bind fun t0 =>
  (pCells 1 a1).bind fun t1 =>
  ((G 9 [A.agg [cGet t0 0, cGet t0 1, cGet t0 2], vi 1048576]).bind (fin false)).bind fun t2 =>
  (pBin .lss false t2 (vi 0)).bind fun t3 =>
  (pBool t3).bind fun t4 =>
  brn t4 (
    some ((vb true, []))) (
    ((G 28 [A.agg [cGet t1 0], t2]).bind (fin false)).bind fun t5 =>
    (pBin .lss false t5 (vi 0)).bind fun t6 =>
    (pBool t6).bind fun t7 =>
    brn t7 (
      some ((vb true, []))) (
      (C12_0 (cGet t0 0) (cGet t0 1) (cGet t0 2)).bind fun t8 =>
      (hD t8 0).bind fun t9 =>
      (hR 1 t8 1).bind fun t10 =>
      (hR 1 t8 2).bind fun t11 =>
      (C30_0 (cGet t1 0)).bind fun t12 =>
      (hR 67 t12 0).bind fun t13 =>
      (C29_0 (A.agg [A.sl 1 t10, A.sl 1 t11, t9]) (A.agg [A.sl 3 t13])).bind fun t14 =>
      (hD t14 0).bind fun t15 =>
      (hR 1 t14 1).bind fun t16 =>
      brn (flatA t15) (
        brn (flatR t16) (
          (C12_0 (cGet t0 0) (cGet t0 1) (cGet t0 2)).bind fun t17 =>
          (hD t17 0).bind fun t18 =>
          (hR 1 t17 1).bind fun t19 =>
          (hR 1 t17 2).bind fun t20 =>
          brn (okA t18) (
            (C30_0 (cGet t1 0)).bind fun t21 =>
            (hR 67 t21 0).bind fun t22 =>
            (C31_0 (A.agg [A.sl 1 t19, A.sl 1 t20, t18]) (A.agg [A.sl 3 t22])).bind fun t23 =>
            (hD t23 0).bind fun t24 =>
            (hR 1 t23 1).bind fun t25 =>
            brn (flatA t24) (
              brn (flatR t25) (
                ((G 32 [A.sl 1 t25, A.sl 1 t16]).bind (fin true)).bind fun t26 =>
                (pUn .not t26).bind fun t27 =>
                (pG t27 false (some t24)).bind fun t28 =>
                (pG t27 false (some t15)).bind fun t29 =>
                (pG t27 false (pBin .neq true t28 t29)).bind fun t30 =>
                (pPick t27 (vb true) t30).bind fun t31 =>
                (pBool t31).bind fun t32 =>
                brn t32 (
                  some ((vb false, []))) (
                  (C12_0 (cGet t0 0) (cGet t0 1) (cGet t0 2)).bind fun t33 =>
                  (hD t33 0).bind fun t34 =>
                  (hR 1 t33 1).bind fun t35 =>
                  (hR 1 t33 2).bind fun t36 =>
                  ((G 16 [A.agg [A.sl 1 t19, A.sl 1 t20, t18], A.agg [A.sl 1 t35, A.sl 1 t36, t34]]).bind (fin true)).bind fun t37 =>
                  (pUn .not t37).bind fun t38 =>
                  (pBool t38).bind fun t39 =>
                  brn t39 (
                    some ((vb false, []))) (
                    (C30_0 (cGet t1 0)).bind fun t40 =>
                    (hR 67 t40 0).bind fun t41 =>
                    ((G 33 [A.agg [A.sl 3 t22], A.agg [A.sl 3 t41]]).bind (fin true)).bind fun t42 =>
                    (pUn .not t42).bind fun t43 =>
                    (pBool t43).bind fun t44 =>
                    brn t44 (
                      some ((vb false, []))) (
                      (C17_0 t18 (vi 1) t19 t20).bind fun t45 =>
                      (hD t45 0).bind fun t46 =>
                      (hR 1 t45 1).bind fun t47 =>
                      (hR 1 t45 2).bind fun t48 =>
                      (C34_0 t46 t22).bind fun t49 =>
                      (hD t49 0).bind fun t50 =>
                      (hR 67 t49 1).bind fun t51 =>
                      (pBin .lss false t50 (vi 0)).bind fun t52 =>
                      (pWant t52 false).bind fun t53 =>
                      (pWant t52 false).bind fun t54 =>
                      (pG t52 false ((G 32 [A.sl 1 t25, A.sl 1 t16]).bind (fin true))).bind fun t55 =>
                      (pG t52 false (pUn .not t55)).bind fun t56 =>
                      (pPick t52 (vb true) t56).bind fun t57 =>
                      (pG t57 false (some t24)).bind fun t58 =>
                      (pG t57 false (some t15)).bind fun t59 =>
                      (pG t57 false (pBin .neq true t58 t59)).bind fun t60 =>
                      (pPick t57 (vb true) t60).bind fun t61 =>
                      (pBool t61).bind fun t62 =>
                      brn t62 (
                        some ((vb false, []))) (
                        (C35_0 (vi 1) t25).bind fun t63 =>
                        (hD t63 0).bind fun t64 =>
                        (hR 1 t63 1).bind fun t65 =>
                        ((G 36 [A.sl 1 t65, vi 1]).bind (fin true)).bind fun t66 =>
                        (pBin .lss false t66 (vi 0)).bind fun t67 =>
                        (pBool t67).bind fun t68 =>
                        brn t68 (
                          some ((vb false, []))) (
                          (pBin .neq false t66 t64).bind fun t69 =>
                          (pBool t69).bind fun t70 =>
                          brn t70 (
                            some ((vb false, []))) (
                            (C12_0 (cGet t0 0) (cGet t0 1) (cGet t0 2)).bind fun t71 =>
                            (hD t71 0).bind fun t72 =>
                            (hR 1 t71 1).bind fun t73 =>
                            (hR 1 t71 2).bind fun t74 =>
                            (C30_0 (cGet t1 0)).bind fun t75 =>
                            (hR 67 t75 0).bind fun t76 =>
                            (C31_0 (A.agg [A.sl 1 t73, A.sl 1 t74, t72]) (A.agg [A.sl 3 t76])).bind fun t77 =>
                            (hD t77 0).bind fun t78 =>
                            (hR 1 t77 1).bind fun t79 =>
                            brn (flatA t78) (
                              brn (flatR t79) (
                                ((G 32 [A.sl 1 t79, A.sl 1 t16]).bind (fin true)).bind fun t80 =>
                                (pUn .not t80).bind fun t81 =>
                                (pG t81 false (some t78)).bind fun t82 =>
                                (pG t81 false (some t15)).bind fun t83 =>
                                (pG t81 false (pBin .neq true t82 t83)).bind fun t84 =>
                                (pPick t81 (vb true) t84).bind fun t85 =>
                                (pBool t85).bind fun t86 =>
                                brn t86 (
                                  some ((vb false, []))) (
                                  ((G 36 [A.sl 1 t65, vi 1]).bind (fin true)).bind fun t87 =>
                                  (pBin .lss false t87 (vi 0)).bind fun t88 =>
                                  (pBool t88).bind fun t89 =>
                                  brn t89 (
                                    some ((vb false, []))) (
                                    (pBin .neq false t87 t64).bind fun t90 =>
                                    (pBool t90).bind fun t91 =>
                                    brn t91 (
                                      some ((vb false, []))) (
                                      some ((vb true, [])))))) (
                                none)) (
                              none)))))))) (
                none)) (
              none)) (
            none)) (
          none)) (
        none))) :=
  (G_eq rfl Tryz.func6 rfl rfl).trans (by kernel_rfl)
theorem g9 (a0 a1 : A) : G 9 [a0, a1] =
  (pCells 3 a0).bind fun t0 =>
  ((G 48 [cGet t0 0, a1]).bind (fin false)).bind fun t1 =>
  (pBin .lss false t1 (vi 0)).bind fun t2 =>
  (pBool t2).bind fun t3 =>
  brn t3 (
    some ((vi (-1), []))) (
    ((G 49 [cGet t0 1, t1]).bind (fin false)).bind fun t4 =>
    (pBin .lss false t4 (vi 0)).bind fun t5 =>
    (pBool t5).bind fun t6 =>
    brn t6 (
      some ((vi (-1), []))) (
      some ((t4, [])))) :=
  (G_eq rfl Tryz.func9 rfl rfl).trans (by kernel_rfl)
theorem g10 (a0 a1 : A) : G 10 [a0, a1] =
  (pCells 2 a0).bind fun t0 =>
  (pLenS (cGet t0 0)).bind fun t1 =>
  (pBin .sub false a1 t1).bind fun t2 =>
  (pBin .lss false t2 (vi 0)).bind fun t3 =>
  (pBool t3).bind fun t4 =>
  brn t4 (
    some ((vi (-1), []))) (
    ((G 20 [cGet t0 1, t2]).bind (fin false)).bind fun t5 =>
    (pBin .lss false t5 (vi 0)).bind fun t6 =>
    (pBool t6).bind fun t7 =>
    brn t7 (
      some ((vi (-1), []))) (
      some ((t5, [])))) :=
  (G_eq rfl Tryz.func10 rfl rfl).trans (by kernel_rfl)
theorem c12_0 (x0 x1 x2 : A) : C12_0 x0 x1 x2 =
  brn (okA x0) (
    brn (okA x1) (
      brn (okA x2) (
        (C54_0 x0).bind fun t0 =>
        (hR 1 t0 0).bind fun t1 =>
        (C55_0 x1).bind fun t2 =>
        (hR 1 t2 0).bind fun t3 =>
        brn (okA x2) (
          brn (okA x2) (
            some ((A.top, [x2, A.sl 1 t1, A.sl 1 t3]))) (
            none)) (
          none)) (
        none)) (
      none)) (
    none) :=
  (V_eq rfl Tryz.func12 rfl rfl).trans (by kernel_rfl)
theorem c13_0 (x0 x1 : A) : C13_0 x0 x1 =
  brn (okA x0) (
    brn (okA x1) (
      brn (okA x0) (
        (C22_0 x1).bind fun t0 =>
        (hR 66 t0 0).bind fun t1 =>
        brn (okA x0) (
          some ((A.top, [x0, A.sl 66 t1]))) (
          none)) (
        none)) (
      none)) (
    none) :=
  (V_eq rfl Tryz.func13 rfl rfl).trans (by kernel_rfl)
theorem c13_1 (x0 : A) : C13_1 x0 =
  (pCells 2 x0).bind fun t0 =>
  brn (okA (cGet t0 0)) (
    (C22_0 (cGet t0 1)).bind fun t1 =>
    (hR 66 t1 0).bind fun t2 =>
    brn (okA (cGet t0 0)) (
      some ((A.top, [cGet t0 0, A.sl 66 t2]))) (
      none)) (
    none) :=
  (V_eq rfl Tryz.func13 rfl rfl).trans (by kernel_rfl)
theorem g14 (a0 a1 : A) : G 14 [a0, a1] =
  (pCells 3 a0).bind fun t0 =>
  (pCells 2 a1).bind fun t1 =>
  ((G 56 [A.agg [cGet t1 0, cGet t1 1]]).bind (fin false)).bind fun t2 =>
  (pUn .not t2).bind fun t3 =>
  (pWant t3 false).bind fun t4 =>
  (pG t3 false ((G 57 [A.agg [cGet t0 0, cGet t0 1, cGet t0 2]]).bind (fin false))).bind fun t5 =>
  (pG t3 false (pUn .not t5)).bind fun t6 =>
  (pPick t3 (vb true) t6).bind fun t7 =>
  (pWant t7 false).bind fun t8 =>
  (pWant t7 false).bind fun t9 =>
  (pG t7 false ((G 58 [A.agg [cGet t0 0, cGet t0 1, cGet t0 2], A.agg [cGet t1 0, cGet t1 1]]).bind (fin false))).bind fun t10 =>
  (pG t7 false (pUn .not t10)).bind fun t11 =>
  (pPick t7 (vb true) t11).bind fun t12 =>
  (pBool t12).bind fun t13 =>
  brn t13 (
    some ((A.tup [A.agg [sv [], A.sl 2 []], vb false, vb false], []))) (
    (C59_0 (cGet t1 0) (cGet t1 1)).bind fun t14 =>
    (hD t14 0).bind fun t15 =>
    (hR 2 t14 1).bind fun t16 =>
    brn (okA t15) (
      (pIndexAddr 2 (cGet t1 1) (vi 0)).bind fun t17 =>
      (pLoadN 2 t17).bind fun t18 =>
      (pIndexAddr 2 (cGet t1 1) (vi 1)).bind fun t19 =>
      (pLoadN 2 t19).bind fun t20 =>
      ((G 60 [A.agg [cGet t0 0, cGet t0 1, cGet t0 2], t18, t20]).bind (fin false)).bind fun t21 =>
      (pBin .eql false t21 (vi 3)).bind fun t22 =>
      (pBool t22).bind fun t23 =>
      brn t23 (
        (pIx (rLenN t16) (vi 1)).bind fun t24 =>
        (pRowN t16 t24 0 2).bind fun t25 =>
        (pIx (rLenN t16) (vi 0)).bind fun t26 =>
        (pRowN t16 t26 0 2).bind fun t27 =>
        (pIx (rLenN t16) (vi 0)).bind fun t28 =>
        (pCells 2 t25).bind fun t29 =>
        (rGet t16 t28).bind fun t30 =>
        (pIx (rLenN (rSet t16 t28 (cOver t30 0 [cGet t29 0, cGet t29 1]))) (vi 1)).bind fun t31 =>
        (pCells 2 t27).bind fun t32 =>
        (rGet (rSet t16 t28 (cOver t30 0 [cGet t29 0, cGet t29 1])) t31).bind fun t33 =>
        (pBin .eql false t21 (vi 3)).bind fun t34 =>
        (pG t34 false (some t21)).bind fun t35 =>
        (pG t34 false (pBin .eql false t35 (vi 2))).bind fun t36 =>
        (pPick t34 (vb true) t36).bind fun t37 =>
        brn (okA t15) (
          some ((A.tup [A.agg [t15, A.sl 2 (rSet (rSet t16 t28 (cOver t30 0 [cGet t29 0, cGet t29 1])) t31 (cOver t33 0 [cGet t32 0, cGet t32 1]))], t37, vb true], []))) (
          none)) (
        (pBin .eql false t21 (vi 3)).bind fun t38 =>
        (pG t38 false (some t21)).bind fun t39 =>
        (pG t38 false (pBin .eql false t39 (vi 2))).bind fun t40 =>
        (pPick t38 (vb true) t40).bind fun t41 =>
        brn (okA t15) (
          some ((A.tup [A.agg [t15, A.sl 2 t16], t41, vb true], []))) (
          none))) (
      none)) :=
  (G_eq rfl Tryz.func14 rfl rfl).trans (by kernel_rfl)
theorem g15 (a0 a1 : A) : G 15 [a0, a1] =
  (pCells 2 a0).bind fun t0 =>
  (pCells 2 a1).bind fun t1 =>
  (pBin .neq false (cGet t0 0) (cGet t1 0)).bind fun t2 =>
  (pBool t2).bind fun t3 =>
  brn t3 (
    some ((vb false, []))) (
    ((G 24 [cGet t0 1, cGet t1 1]).bind (fin false)).bind fun t4 =>
    (pUn .not t4).bind fun t5 =>
    (pBool t5).bind fun t6 =>
    brn t6 (
      some ((vb false, []))) (
      some ((vb true, [])))) :=
  (G_eq rfl Tryz.func15 rfl rfl).trans (by kernel_rfl)
theorem g16 (a0 a1 : A) : G 16 [a0, a1] =
  (pCells 3 a0).bind fun t0 =>
  (pCells 3 a1).bind fun t1 =>
  ((G 61 [cGet t0 0, cGet t1 0]).bind (fin false)).bind fun t2 =>
  (pUn .not t2).bind fun t3 =>
  (pBool t3).bind fun t4 =>
  brn t4 (
    some ((vb false, []))) (
    ((G 32 [cGet t0 1, cGet t1 1]).bind (fin false)).bind fun t5 =>
    (pUn .not t5).bind fun t6 =>
    (pBool t6).bind fun t7 =>
    brn t7 (
      some ((vb false, []))) (
      (pBin .neq false (cGet t0 2) (cGet t1 2)).bind fun t8 =>
      (pBool t8).bind fun t9 =>
      brn t9 (
        some ((vb false, []))) (
        some ((vb true, []))))) :=
  (G_eq rfl Tryz.func16 rfl rfl).trans (by kernel_rfl)
theorem c17_0 (x0 x1 : A) (r0 r1 : List (List A)) : C17_0 x0 x1 r0 r1 =
  brn (okA x0) (
    (C62_0 x1 r0).bind fun t0 =>
    (hD t0 0).bind fun t1 =>
    (hR 1 t0 1).bind fun t2 =>
    (C35_0 t1 r1).bind fun t3 =>
    (hD t3 0).bind fun t4 =>
    (hR 1 t3 1).bind fun t5 =>
    some ((A.top, [t4, A.sl 1 t2, A.sl 1 t5]))) (
    none) :=
  (V_eq rfl Tryz.func17 rfl rfl).trans (by kernel_rfl)
theorem g20 (a0 a1 : A) : G 20 [a0, a1] =
  (pLenL a0).bind fun t0 =>
  (pBin .sub false a1 t0).bind fun t1 =>
  (pBin .lss false t1 (vi 0)).bind fun t2 =>
  (pBool t2).bind fun t3 =>
  brn t3 (
    some ((vi (-1), []))) (
    L20_0 a0 t1 (vi 0)) :=
  (G_eq rfl Tryz.func20 rfl rfl).trans (by kernel_rfl)
theorem l20_0 (x0 x1 x2 : A) : L20_0 x0 x1 x2 =
  (pLenL x0).bind fun t4 =>
  (pBin .lss false x2 t4).bind fun t5 =>
  (pBool t5).bind fun t6 =>
  brn t6 (
    (pIndexAddr 2 x0 x2).bind fun t7 =>
    (pLoadN 2 t7).bind fun t8 =>
    ((G 10 [t8, x1]).bind (fin false)).bind fun t9 =>
    (pBin .lss false t9 (vi 0)).bind fun t10 =>
    (pBool t10).bind fun t11 =>
    brn t11 (
      some ((vi (-1), []))) (
      (pBin .add false x2 (vi 1)).bind fun t12 =>
      L20_0 x0 t9 t12)) (
    some ((x1, []))) :=
  (H_eq Tryz.func20 rfl).trans (by kernel_rfl)
theorem c22_0 (x0 : A) : C22_0 x0 =
  (pLenL x0).bind fun t0 =>
  (pMake 40 t0 t0).bind fun t1 =>
  L22c0_0 x0 (vi 0) (rRep t1 [sv [], A.sl 2 []]) :=
  (V_eq rfl Tryz.func22 rfl rfl).trans (by kernel_rfl)
theorem l22c0_0 (x0 x1 : A) (r0 : List (List A)) : L22c0_0 x0 x1 r0 =
  (pLenL x0).bind fun t2 =>
  (pBin .lss false x1 t2).bind fun t3 =>
  (pBool t3).bind fun t4 =>
  brn t4 (
    (pIndexAddr 2 x0 x1).bind fun t5 =>
    (pLoadN 2 t5).bind fun t6 =>
    (C13_1 t6).bind fun t7 =>
    (hD t7 0).bind fun t8 =>
    (hR 66 t7 1).bind fun t9 =>
    (pIx (rLenN r0) x1).bind fun t10 =>
    brn (okA t8) (
      brn (isVal t8) (
        (rGet r0 t10).bind fun t11 =>
        (pBin .add false x1 (vi 1)).bind fun t12 =>
        L22c0_0 x0 t12 (rSet r0 t10 (cOver t11 0 [t8, A.sl 2 t9]))) (
        none)) (
      none)) (
    some ((A.top, [A.sl 66 r0]))) :=
  (H_eq Tryz.func22 rfl).trans (by kernel_rfl)
theorem g24 (a0 a1 : A) : G 24 [a0, a1] =
  (pLenL a0).bind fun t0 =>
  (pLenL a1).bind fun t1 =>
  (pBin .neq false t0 t1).bind fun t2 =>
  (pBool t2).bind fun t3 =>
  brn t3 (
    some ((vb false, []))) (
    L24_0 a0 a1 (vi 0)) :=
  (G_eq rfl Tryz.func24 rfl rfl).trans (by kernel_rfl)
theorem l24_0 (x0 x1 x2 : A) : L24_0 x0 x1 x2 =
  (pLenL x0).bind fun t4 =>
  (pBin .lss false x2 t4).bind fun t5 =>
  (pBool t5).bind fun t6 =>
  brn t6 (
    (pIndexAddr 2 x0 x2).bind fun t7 =>
    (pLoadN 2 t7).bind fun t8 =>
    (pIndexAddr 2 x1 x2).bind fun t9 =>
    (pLoadN 2 t9).bind fun t10 =>
    ((G 15 [t8, t10]).bind (fin false)).bind fun t11 =>
    (pUn .not t11).bind fun t12 =>
    (pBool t12).bind fun t13 =>
    brn t13 (
      some ((vb false, []))) (
      (pBin .add false x2 (vi 1)).bind fun t14 =>
      L24_0 x0 x1 t14)) (
    some ((vb true, []))) :=
  (H_eq Tryz.func24 rfl).trans (by kernel_rfl)
theorem c27_0 (x0 : A) (r0 : List (List A)) : C27_0 x0 r0 =
  L27c0_0 x0 (vi 0) r0 :=
  (V_eq rfl Tryz.func27 rfl rfl).trans (by kernel_rfl)
theorem l27c0_0 (x0 x1 : A) (r0 : List (List A)) : L27c0_0 x0 x1 r0 =
  (pBin .lss false x1 (rLen r0)).bind fun t0 =>
  (pBool t0).bind fun t1 =>
  brn t1 (
    ((G 75 [x0]).bind (fin false)).bind fun t2 =>
    (pIx (rLenN r0) x1).bind fun t3 =>
    brn (okA t2) (
      brn (isVal t2) (
        (rGet r0 t3).bind fun t4 =>
        brn (tVals t4 0 1) (
          (pBin .add false x0 (vi 1)).bind fun t5 =>
          (pIx (rLenN (rSet r0 t3 (cOver t4 0 [t2]))) x1).bind fun t6 =>
          (rGet (rSet r0 t3 (cOver t4 0 [t2])) t6).bind fun t7 =>
          brn (isSlA (cGet t7 1)) (
            (rGet (rSet r0 t3 (cOver t4 0 [t2])) t6).bind fun t8 =>
            (pRows 2 (cGet t8 1)).bind fun t9 =>
            (C27_0 t5 t9).bind fun t10 =>
            (hD t10 0).bind fun t11 =>
            (hR 66 t10 1).bind fun t12 =>
            (pBin .add false x1 (vi 1)).bind fun t13 =>
            L27c0_0 t11 t13 (rSet (rSet r0 t3 (cOver t4 0 [t2])) t6 (cOver t8 1 [A.sl 2 t12]))) (
            none)) (
          none)) (
        none)) (
      none)) (
    some ((A.top, [x0, A.sl 66 r0]))) :=
  (H_eq Tryz.func27 rfl).trans (by kernel_rfl)
theorem g28 (a0 a1 : A) : G 28 [a0, a1] =
  (pCells 1 a0).bind fun t0 =>
  ((G 76 [cGet t0 0, a1]).bind (fin false)).bind fun t1 =>
  (pBin .lss false t1 (vi 0)).bind fun t2 =>
  (pBool t2).bind fun t3 =>
  brn t3 (
    some ((vi (-1), []))) (
    some ((t1, []))) :=
  (G_eq rfl Tryz.func28 rfl rfl).trans (by kernel_rfl)
theorem c29_0 (x0 x1 : A) : C29_0 x0 x1 =
  (pCells 3 x0).bind fun t0 =>
  (pCells 1 x1).bind fun t1 =>
  ((G 50 [A.agg [cGet t0 0, cGet t0 1, cGet t0 2]]).bind (fin false)).bind fun t2 =>
  (pUn .not t2).bind fun t3 =>
  (pWant t3 false).bind fun t4 =>
  (pG t3 false (some (cGet t1 0))).bind fun t5 =>
  (pG t3 false (pLenL t5)).bind fun t6 =>
  (pG t3 false (pBin .gtr false t6 (vi 8))).bind fun t7 =>
  (pPick t3 (vb true) t7).bind fun t8 =>
  (pBool t8).bind fun t9 =>
  brn t9 (
    some ((A.top, [vb false, A.sl 1 []]))) (
    L29c0_0 (vi 0) (cGet t0 0) (cGet t0 1) (cGet t0 2) (cGet t1 0) []) :=
  (V_eq rfl Tryz.func29 rfl rfl).trans (by kernel_rfl)
theorem l29c0_0 (x0 x1 x2 x3 x4 : A) (r0 : List (List A)) : L29c0_0 x0 x1 x2 x3 x4 r0 =
  (pLenL x4).bind fun t10 =>
  (pBin .lss false x0 t10).bind fun t11 =>
  (pBool t11).bind fun t12 =>
  brn t12 (
    (pIndexAddr 3 x4 x0).bind fun t13 =>
    (pLoadN 3 t13).bind fun t14 =>
    ((G 77 [A.agg [x1, x2, x3], t14]).bind (fin false)).bind fun t15 =>
    (pTup t15 0).bind fun t16 =>
    (pTup t15 1).bind fun t17 =>
    (pUn .not t17).bind fun t18 =>
    (pBool t18).bind fun t19 =>
    brn t19 (
      some ((A.top, [vb false, A.sl 1 []]))) (
      brn (okA t16) (
        brn (pFit ((rLenN r0) + (rLenN [[t16]])) 24) (
          (pBin .add false x0 (vi 1)).bind fun t20 =>
          L29c0_0 t20 x1 x2 x3 x4 (rApp r0 [[t16]])) (
          none)) (
        none))) (
    L29c0_1 (vi 0) x1 x2 x3 r0 []) :=
  (H_eq Tryz.func29 rfl).trans (by kernel_rfl)
theorem l29c0_1 (x0 x1 x2 x3 : A) (r0 r1 : List (List A)) : L29c0_1 x0 x1 x2 x3 r0 r1 =
  (pBin .lss false x0 (rLen r0)).bind fun t21 =>
  (pBool t21).bind fun t22 =>
  brn t22 (
    L29c0_2 x0 (vb true) (vi 0) x1 x2 x3 r0 r1) (
    some ((A.top, [vb true, A.sl 1 r1]))) :=
  (H_eq Tryz.func29 rfl).trans (by kernel_rfl)
theorem l29c0_2 (x0 x1 x2 x3 x4 x5 : A) (r0 r1 : List (List A)) : L29c0_2 x0 x1 x2 x3 x4 x5 r0 r1 =
  (pBin .lss false x2 (rLen r0)).bind fun t23 =>
  (pBool t23).bind fun t24 =>
  brn t24 (
    (pWant x1 true).bind fun t25 =>
    (pWant x1 true).bind fun t26 =>
    (pG x1 true (some x2)).bind fun t27 =>
    (pWant x1 true).bind fun t28 =>
    brn t28 (
      (pIx (rLenN r0) t27).bind fun t29 =>
      (pG x1 true (pRowP r0 t29 0)).bind fun t30 =>
      (pWant x1 true).bind fun t31 =>
      (pG x1 true (some x0)).bind fun t32 =>
      (pWant x1 true).bind fun t33 =>
      brn t33 (
        (pIx (rLenN r0) t32).bind fun t34 =>
        (pG x1 true (pRowP r0 t34 0)).bind fun t35 =>
        (pG x1 true ((G 78 [A.agg [x3, x4, x5], t30, t35]).bind (fin false))).bind fun t36 =>
        (pG x1 true (pBin .neq false t36 (vi 2))).bind fun t37 =>
        (pPick x1 t37 (vb false)).bind fun t38 =>
        (pBin .add false x2 (vi 1)).bind fun t39 =>
        L29c0_2 x0 t38 t39 x3 x4 x5 r0 r1) (
        (pG x1 true (pLoadP (A.val undef))).bind fun t40 =>
        (pG x1 true ((G 78 [A.agg [x3, x4, x5], t30, t40]).bind (fin false))).bind fun t41 =>
        (pG x1 true (pBin .neq false t41 (vi 2))).bind fun t42 =>
        (pPick x1 t42 (vb false)).bind fun t43 =>
        (pBin .add false x2 (vi 1)).bind fun t44 =>
        L29c0_2 x0 t43 t44 x3 x4 x5 r0 r1)) (
      (pG x1 true (pLoadP (A.val undef))).bind fun t45 =>
      (pWant x1 true).bind fun t46 =>
      (pG x1 true (some x0)).bind fun t47 =>
      (pWant x1 true).bind fun t48 =>
      brn t48 (
        (pIx (rLenN r0) t47).bind fun t49 =>
        (pG x1 true (pRowP r0 t49 0)).bind fun t50 =>
        (pG x1 true ((G 78 [A.agg [x3, x4, x5], t45, t50]).bind (fin false))).bind fun t51 =>
        (pG x1 true (pBin .neq false t51 (vi 2))).bind fun t52 =>
        (pPick x1 t52 (vb false)).bind fun t53 =>
        (pBin .add false x2 (vi 1)).bind fun t54 =>
        L29c0_2 x0 t53 t54 x3 x4 x5 r0 r1) (
        (pG x1 true (pLoadP (A.val undef))).bind fun t55 =>
        (pG x1 true ((G 78 [A.agg [x3, x4, x5], t45, t55]).bind (fin false))).bind fun t56 =>
        (pG x1 true (pBin .neq false t56 (vi 2))).bind fun t57 =>
        (pPick x1 t57 (vb false)).bind fun t58 =>
        (pBin .add false x2 (vi 1)).bind fun t59 =>
        L29c0_2 x0 t58 t59 x3 x4 x5 r0 r1))) (
    (pBool x1).bind fun t60 =>
    brn t60 (
      brn (okA x0) (
        brn (pFit ((rLenN r1) + (rLenN [[x0]])) 8) (
          (pBin .add false x0 (vi 1)).bind fun t61 =>
          L29c0_1 t61 x3 x4 x5 r0 (rApp r1 [[x0]])) (
          none)) (
        none)) (
      (pBin .add false x0 (vi 1)).bind fun t62 =>
      L29c0_1 t62 x3 x4 x5 r0 r1)) :=
  (H_eq Tryz.func29 rfl).trans (by kernel_rfl)
theorem c30_0 (x0 : A) : C30_0 x0 =
  brn (okA x0) (
    (C79_0 x0).bind fun t0 =>
    (hR 67 t0 0).bind fun t1 =>
    some ((A.top, [A.sl 67 t1]))) (
    none) :=
  (V_eq rfl Tryz.func30 rfl rfl).trans (by kernel_rfl)
theorem c31_0 (x0 x1 : A) : C31_0 x0 x1 =
  (pCells 3 x0).bind fun t0 =>
  (pCells 1 x1).bind fun t1 =>
  ((G 57 [A.agg [cGet t0 0, cGet t0 1, cGet t0 2]]).bind (fin false)).bind fun t2 =>
  (pUn .not t2).bind fun t3 =>
  (pWant t3 false).bind fun t4 =>
  (pG t3 false (some (cGet t1 0))).bind fun t5 =>
  (pG t3 false (pLenL t5)).bind fun t6 =>
  (pG t3 false (pBin .gtr false t6 (vi 8))).bind fun t7 =>
  (pPick t3 (vb true) t7).bind fun t8 =>
  (pWant t8 false).bind fun t9 =>
  (pWant t8 false).bind fun t10 =>
  (pG t8 false ((G 80 [A.agg [cGet t0 0, cGet t0 1, cGet t0 2], A.agg [cGet t1 0]]).bind (fin false))).bind fun t11 =>
  (pG t8 false (pUn .not t11)).bind fun t12 =>
  (pPick t8 (vb true) t12).bind fun t13 =>
  (pBool t13).bind fun t14 =>
  brn t14 (
    some ((A.top, [vb false, A.sl 1 []]))) (
    (C81_0 (cGet t0 0) (cGet t0 1) (cGet t0 2) (cGet t1 0)).bind fun t15 =>
    (hR 1 t15 0).bind fun t16 =>
    some ((A.top, [vb true, A.sl 1 t16]))) :=
  (V_eq rfl Tryz.func31 rfl rfl).trans (by kernel_rfl)
theorem g32 (a0 a1 : A) : G 32 [a0, a1] =
  (pLenL a0).bind fun t0 =>
  (pLenL a1).bind fun t1 =>
  (pBin .neq false t0 t1).bind fun t2 =>
  (pBool t2).bind fun t3 =>
  brn t3 (
    some ((vb false, []))) (
    L32_0 a0 a1 (vi 0)) :=
  (G_eq rfl Tryz.func32 rfl rfl).trans (by kernel_rfl)
theorem l32_0 (x0 x1 x2 : A) : L32_0 x0 x1 x2 =
  (pLenL x0).bind fun t4 =>
  (pBin .lss false x2 t4).bind fun t5 =>
  (pBool t5).bind fun t6 =>
  brn t6 (
    (pIndexAddr 1 x0 x2).bind fun t7 =>
    (pLoadP t7).bind fun t8 =>
    (pIndexAddr 1 x1 x2).bind fun t9 =>
    (pLoadP t9).bind fun t10 =>
    (pBin .neq false t8 t10).bind fun t11 =>
    (pBool t11).bind fun t12 =>
    brn t12 (
      some ((vb false, []))) (
      (pBin .add false x2 (vi 1)).bind fun t13 =>
      L32_0 x0 x1 t13)) (
    some ((vb true, []))) :=
  (H_eq Tryz.func32 rfl).trans (by kernel_rfl)
theorem g33 (a0 a1 : A) : G 33 [a0, a1] =
  (pCells 1 a0).bind fun t0 =>
  (pCells 1 a1).bind fun t1 =>
  ((G 82 [cGet t0 0, cGet t1 0]).bind (fin false)).bind fun t2 =>
  (pUn .not t2).bind fun t3 =>
  (pBool t3).bind fun t4 =>
  brn t4 (
    some ((vb false, []))) (
    some ((vb true, []))) :=
  (G_eq rfl Tryz.func33 rfl rfl).trans (by kernel_rfl)
theorem c34_0 (x0 : A) (r0 : List (List A)) : C34_0 x0 r0 =
  (C83_0 x0 r0).bind fun t0 =>
  (hD t0 0).bind fun t1 =>
  (hR 67 t0 1).bind fun t2 =>
  some ((A.top, [t1, A.sl 67 t2])) :=
  (V_eq rfl Tryz.func34 rfl rfl).trans (by kernel_rfl)
theorem c35_0 (x0 : A) (r0 : List (List A)) : C35_0 x0 r0 =
  L35c0_0 x0 (vi 0) r0 :=
  (V_eq rfl Tryz.func35 rfl rfl).trans (by kernel_rfl)
theorem l35c0_0 (x0 x1 : A) (r0 : List (List A)) : L35c0_0 x0 x1 r0 =
  (pBin .lss false x1 (rLen r0)).bind fun t0 =>
  (pBool t0).bind fun t1 =>
  brn t1 (
    (pIx (rLenN r0) x1).bind fun t2 =>
    brn (okA x0) (
      (rGet r0 t2).bind fun t3 =>
      (pBin .add false x0 (vi 1)).bind fun t4 =>
      (pBin .add false x1 (vi 1)).bind fun t5 =>
      L35c0_0 t4 t5 (rSet r0 t2 (cOver t3 0 [x0]))) (
      none)) (
    some ((A.top, [x0, A.sl 1 r0]))) :=
  (H_eq Tryz.func35 rfl).trans (by kernel_rfl)
theorem g36 (a0 a1 : A) : G 36 [a0, a1] =
  L36_0 a0 a1 (vi 0) :=
  (G_eq rfl Tryz.func36 rfl rfl).trans (by kernel_rfl)
theorem l36_0 (x0 x1 x2 : A) : L36_0 x0 x1 x2 =
  (pLenL x0).bind fun t0 =>
  (pBin .lss false x2 t0).bind fun t1 =>
  (pBool t1).bind fun t2 =>
  brn t2 (
    (pIndexAddr 1 x0 x2).bind fun t3 =>
    (pLoadP t3).bind fun t4 =>
    (pBin .neq false t4 x1).bind fun t5 =>
    (pBool t5).bind fun t6 =>
    brn t6 (
      some ((vi (-1), []))) (
      (pBin .add false x1 (vi 1)).bind fun t7 =>
      (pBin .add false x2 (vi 1)).bind fun t8 =>
      L36_0 x0 t7 t8)) (
    some ((x1, []))) :=
  (H_eq Tryz.func36 rfl).trans (by kernel_rfl)
theorem g40 (a0 a1 a2 : A) : G 40 [a0, a1, a2] =
  (pCells 3 a0).bind fun t0 =>
  (pCells 2 a1).bind fun t1 =>
  (pCells 2 a2).bind fun t2 =>
  brn (okA (cGet t1 0)) (
    brn (okA (cGet t1 1)) (
      brn (okA (cGet t2 0)) (
        brn (okA (cGet t2 1)) (
          ((G 86 [A.agg [cGet t0 0, cGet t0 1, cGet t0 2], A.sl 2 [[cGet t1 0, cGet t1 1], [cGet t2 0, cGet t2 1]]]).bind (fin true)).bind fun t3 =>
          (pUn .not t3).bind fun t4 =>
          (pBool t4).bind fun t5 =>
          brn t5 (
            some ((A.tup [vi 0, vb false], []))) (
            ((G 60 [A.agg [cGet t0 0, cGet t0 1, cGet t0 2], A.agg [cGet t1 0, cGet t1 1], A.agg [cGet t2 0, cGet t2 1]]).bind (fin false)).bind fun t6 =>
            some ((A.tup [t6, vb true], [])))) (
          none)) (
        none)) (
      none)) (
    none) :=
  (G_eq rfl Tryz.func40 rfl rfl).trans (by kernel_rfl)
theorem g41 (a0 a1 a2 : A) : G 41 [a0, a1, a2] =
  (pCells 3 a0).bind fun t0 =>
  (pCells 2 a1).bind fun t1 =>
  (pCells 2 a2).bind fun t2 =>
  ((G 50 [A.agg [cGet t0 0, cGet t0 1, cGet t0 2]]).bind (fin false)).bind fun t3 =>
  (pUn .not t3).bind fun t4 =>
  (pWant t4 false).bind fun t5 =>
  (pWant t4 false).bind fun t6 =>
  (pG t4 false ((G 87 [A.agg [cGet t0 0, cGet t0 1, cGet t0 2], A.agg [cGet t1 0, cGet t1 1]]).bind (fin false))).bind fun t7 =>
  (pG t4 false (pUn .not t7)).bind fun t8 =>
  (pPick t4 (vb true) t8).bind fun t9 =>
  (pWant t9 false).bind fun t10 =>
  (pWant t9 false).bind fun t11 =>
  (pG t9 false ((G 87 [A.agg [cGet t0 0, cGet t0 1, cGet t0 2], A.agg [cGet t2 0, cGet t2 1]]).bind (fin false))).bind fun t12 =>
  (pG t9 false (pUn .not t12)).bind fun t13 =>
  (pPick t9 (vb true) t13).bind fun t14 =>
  (pBool t14).bind fun t15 =>
  brn t15 (
    some ((A.tup [vi 0, vb false], []))) (
    ((G 67 [A.agg [cGet t1 0, cGet t1 1], A.agg [cGet t2 0, cGet t2 1]]).bind (fin false)).bind fun t16 =>
    ((G 52 [A.agg [cGet t0 0, cGet t0 1, cGet t0 2], A.agg [cGet t1 0, cGet t1 1], A.agg [cGet t2 0, cGet t2 1]]).bind (fin false)).bind fun t17 =>
    ((G 52 [A.agg [cGet t0 0, cGet t0 1, cGet t0 2], A.agg [cGet t2 0, cGet t2 1], A.agg [cGet t1 0, cGet t1 1]]).bind (fin false)).bind fun t18 =>
    ((G 88 [t16, t17, t18]).bind (fin false)).bind fun t19 =>
    some ((A.tup [t19, vb true], []))) :=
  (G_eq rfl Tryz.func41 rfl rfl).trans (by kernel_rfl)
theorem g43 (a0 a1 a2 : A) : G 43 [a0, a1, a2] =
  (pCells 3 a0).bind fun t0 =>
  (pCells 2 a1).bind fun t1 =>
  (pCells 2 a2).bind fun t2 =>
  brn (okA (cGet t1 0)) (
    brn (okA (cGet t1 1)) (
      brn (okA (cGet t2 0)) (
        brn (okA (cGet t2 1)) (
          ((G 86 [A.agg [cGet t0 0, cGet t0 1, cGet t0 2], A.sl 2 [[cGet t1 0, cGet t1 1], [cGet t2 0, cGet t2 1]]]).bind (fin true)).bind fun t3 =>
          (pUn .not t3).bind fun t4 =>
          (pBool t4).bind fun t5 =>
          brn t5 (
            some ((A.tup [vi 0, vb false], []))) (
            ((G 69 [A.agg [cGet t1 0, cGet t1 1], A.agg [cGet t2 0, cGet t2 1]]).bind (fin false)).bind fun t6 =>
            ((G 89 [t6, A.fn 90 [A.elt [cGet t0 0, cGet t0 1, cGet t0 2] 0, A.elt [cGet t1 0, cGet t1 1] 0, A.elt [cGet t2 0, cGet t2 1] 0], A.fn 92 [A.elt [cGet t0 0, cGet t0 1, cGet t0 2] 0, A.elt [cGet t2 0, cGet t2 1] 0, A.elt [cGet t1 0, cGet t1 1] 0]]).bind (fin true)).bind fun t7 =>
            some ((A.tup [t7, vb true], [])))) (
          none)) (
        none)) (
      none)) (
    none) :=
  (G_eq rfl Tryz.func43 rfl rfl).trans (by kernel_rfl)
theorem g44 (a0 a1 a2 : A) : G 44 [a0, a1, a2] =
  (pCells 3 a0).bind fun t0 =>
  (pCells 2 a1).bind fun t1 =>
  (pCells 2 a2).bind fun t2 =>
  ((G 50 [A.agg [cGet t0 0, cGet t0 1, cGet t0 2]]).bind (fin false)).bind fun t3 =>
  (pUn .not t3).bind fun t4 =>
  (pWant t4 false).bind fun t5 =>
  (pWant t4 false).bind fun t6 =>
  (pG t4 false ((G 87 [A.agg [cGet t0 0, cGet t0 1, cGet t0 2], A.agg [cGet t1 0, cGet t1 1]]).bind (fin false))).bind fun t7 =>
  (pG t4 false (pUn .not t7)).bind fun t8 =>
  (pPick t4 (vb true) t8).bind fun t9 =>
  (pWant t9 false).bind fun t10 =>
  (pWant t9 false).bind fun t11 =>
  (pG t9 false ((G 87 [A.agg [cGet t0 0, cGet t0 1, cGet t0 2], A.agg [cGet t2 0, cGet t2 1]]).bind (fin false))).bind fun t12 =>
  (pG t9 false (pUn .not t12)).bind fun t13 =>
  (pPick t9 (vb true) t13).bind fun t14 =>
  (pBool t14).bind fun t15 =>
  brn t15 (
    some ((A.tup [vi 0, vb false], []))) (
    ((G 67 [A.agg [cGet t1 0, cGet t1 1], A.agg [cGet t2 0, cGet t2 1]]).bind (fin false)).bind fun t16 =>
    ((G 93 [A.agg [cGet t0 0, cGet t0 1, cGet t0 2], A.agg [cGet t1 0, cGet t1 1], A.agg [cGet t2 0, cGet t2 1]]).bind (fin false)).bind fun t17 =>
    ((G 93 [A.agg [cGet t0 0, cGet t0 1, cGet t0 2], A.agg [cGet t2 0, cGet t2 1], A.agg [cGet t1 0, cGet t1 1]]).bind (fin false)).bind fun t18 =>
    ((G 88 [t16, t17, t18]).bind (fin false)).bind fun t19 =>
    some ((A.tup [t19, vb true], []))) :=
  (G_eq rfl Tryz.func44 rfl rfl).trans (by kernel_rfl)
theorem g47 (a0 a1 : A) : G 47 [a0, a1] =
  (pCells 3 a0).bind fun t0 =>
  ((G 57 [A.agg [cGet t0 0, cGet t0 1, cGet t0 2]]).bind (fin false)).bind fun t1 =>
  (pUn .not t1).bind fun t2 =>
  (pG t2 false (some a1)).bind fun t3 =>
  (pG t2 false (pLenL t3)).bind fun t4 =>
  (pG t2 false (pBin .gtr false t4 (vi 8))).bind fun t5 =>
  (pPick t2 (vb true) t5).bind fun t6 =>
  (pBool t6).bind fun t7 =>
  brn t7 (
    some ((A.tup [vi 0, vb false], []))) (
    (pLenL a1).bind fun t8 =>
    L47_0 (vi (-1)) a1 t8 (vi 0) (cGet t0 0) (cGet t0 1) (cGet t0 2)) :=
  (G_eq rfl Tryz.func47 rfl rfl).trans (by kernel_rfl)
theorem l47_0 (x0 x1 x2 x3 x4 x5 x6 : A) : L47_0 x0 x1 x2 x3 x4 x5 x6 =
  (pBin .lss false x3 x2).bind fun t9 =>
  (pBool t9).bind fun t10 =>
  brn t10 (
    (pIndexAddr 2 x1 x3).bind fun t11 =>
    (pLoadN 2 t11).bind fun t12 =>
    (pCells 2 t12).bind fun t13 =>
    ((G 14 [A.agg [x4, x5, x6], A.agg [cGet t13 0, cGet t13 1]]).bind (fin false)).bind fun t14 =>
    (pTup t14 0).bind fun t15 =>
    (pTup t14 1).bind fun t16 =>
    (pTup t14 2).bind fun t17 =>
    (pCells 2 t15).bind fun t18 =>
    (pUn .not t17).bind fun t19 =>
    (pBool t19).bind fun t20 =>
    brn t20 (
      some ((A.tup [vi 0, vb false], []))) (
      (pBin .lss false x0 (vi 0)).bind fun t21 =>
      (pWant t21 true).bind fun t22 =>
      (pWant t21 true).bind fun t23 =>
      (pG t21 true (some (cGet t13 1))).bind fun t24 =>
      (pG t21 true (pIndexAddr 2 t24 (vi 0))).bind fun t25 =>
      (pG t21 true (pLoadN 2 t25)).bind fun t26 =>
      (pWant t21 true).bind fun t27 =>
      (pG t21 true (some (cGet t13 1))).bind fun t28 =>
      (pG t21 true (pIndexAddr 2 t28 (vi 1))).bind fun t29 =>
      (pG t21 true (pLoadN 2 t29)).bind fun t30 =>
      (pG t21 true ((G 96 [A.agg [x4, x5, x6], t26, t30]).bind (fin false))).bind fun t31 =>
      (pG t21 true (pUn .not t31)).bind fun t32 =>
      (pPick t21 t32 (vb false)).bind fun t33 =>
      (pBool t33).bind fun t34 =>
      brn t34 (
        (pBin .add false x3 (vi 1)).bind fun t35 =>
        L47_0 x3 x1 x2 t35 x4 x5 x6) (
        (pBin .add false x3 (vi 1)).bind fun t36 =>
        L47_0 x0 x1 x2 t36 x4 x5 x6))) (
    some ((A.tup [x0, vb true], []))) :=
  (H_eq Tryz.func47 rfl).trans (by kernel_rfl)
theorem g48 (a0 a1 : A) : G 48 [a0, a1] =
  (pLenL a0).bind fun t0 =>
  (pBin .sub false a1 t0).bind fun t1 =>
  (pBin .lss false t1 (vi 0)).bind fun t2 =>
  (pBool t2).bind fun t3 =>
  brn t3 (
    some ((vi (-1), []))) (
    L48_0 a0 t1 (vi 0)) :=
  (G_eq rfl Tryz.func48 rfl rfl).trans (by kernel_rfl)
theorem l48_0 (x0 x1 x2 : A) : L48_0 x0 x1 x2 =
  (pLenL x0).bind fun t4 =>
  (pBin .lss false x2 t4).bind fun t5 =>
  (pBool t5).bind fun t6 =>
  brn t6 (
    (pIndexAddr 1 x0 x2).bind fun t7 =>
    (pLoadP t7).bind fun t8 =>
    (pLenS t8).bind fun t9 =>
    (pBin .sub false x1 t9).bind fun t10 =>
    (pBin .lss false t10 (vi 0)).bind fun t11 =>
    (pBool t11).bind fun t12 =>
    brn t12 (
      some ((vi (-1), []))) (
      (pBin .add false x2 (vi 1)).bind fun t13 =>
      L48_0 x0 t10 t13)) (
    some ((x1, []))) :=
  (H_eq Tryz.func48 rfl).trans (by kernel_rfl)
theorem g49 (a0 a1 : A) : G 49 [a0, a1] =
  (pLenL a0).bind fun t0 =>
  (pBin .sub false a1 t0).bind fun t1 =>
  (pBin .lss false t1 (vi 0)).bind fun t2 =>
  (pBool t2).bind fun t3 =>
  brn t3 (
    some ((vi (-1), []))) (
    some ((t1, []))) :=
  (G_eq rfl Tryz.func49 rfl rfl).trans (by kernel_rfl)
theorem g50 (a0 : A) : G 50 [a0] =
  (pCells 3 a0).bind fun t0 =>
  (pLenL (cGet t0 0)).bind fun t1 =>
  ((G 97 [t1, vi 1, vi 12]).bind (fin false)).bind fun t2 =>
  (pUn .not t2).bind fun t3 =>
  (pWant t3 false).bind fun t4 =>
  (pG t3 false (some (cGet t0 1))).bind fun t5 =>
  (pG t3 false (pLenL t5)).bind fun t6 =>
  (pWant t3 false).bind fun t7 =>
  (pG t3 false (some (cGet t0 0))).bind fun t8 =>
  (pG t3 false (pLenL t8)).bind fun t9 =>
  (pG t3 false (pBin .neq false t6 t9)).bind fun t10 =>
  (pPick t3 (vb true) t10).bind fun t11 =>
  (pWant t11 false).bind fun t12 =>
  (pG t11 false (some (cGet t0 2))).bind fun t13 =>
  (pG t11 false ((G 97 [t13, vi 1, vi 100]).bind (fin false))).bind fun t14 =>
  (pG t11 false (pUn .not t14)).bind fun t15 =>
  (pPick t11 (vb true) t15).bind fun t16 =>
  (pBool t16).bind fun t17 =>
  brn t17 (
    some ((vb false, []))) (
    L50_0 (vi 0) (cGet t0 0) (cGet t0 1) (cGet t0 2)) :=
  (G_eq rfl Tryz.func50 rfl rfl).trans (by kernel_rfl)
theorem l50_0 (x0 x1 x2 x3 : A) : L50_0 x0 x1 x2 x3 =
  (pLenL x1).bind fun t18 =>
  (pBin .lss false x0 t18).bind fun t19 =>
  (pBool t19).bind fun t20 =>
  brn t20 (
    (pIndexAddr 1 x1 x0).bind fun t21 =>
    (pLoadP t21).bind fun t22 =>
    ((G 98 [t22]).bind (fin false)).bind fun t23 =>
    (pUn .not t23).bind fun t24 =>
    (pWant t24 false).bind fun t25 =>
    (pG t24 false (some x1)).bind fun t26 =>
    (pG t24 false (some x0)).bind fun t27 =>
    (pG t24 false (pSlice 1 t26 none (some t27))).bind fun t28 =>
    (pWant t24 false).bind fun t29 =>
    (pG t24 false (some x1)).bind fun t30 =>
    (pG t24 false (some x0)).bind fun t31 =>
    (pG t24 false (pIndexAddr 1 t30 t31)).bind fun t32 =>
    (pG t24 false (pLoadP t32)).bind fun t33 =>
    (pG t24 false ((G 99 [t28, t33]).bind (fin false))).bind fun t34 =>
    (pPick t24 (vb true) t34).bind fun t35 =>
    (pWant t35 false).bind fun t36 =>
    (pG t35 false (some x2)).bind fun t37 =>
    (pG t35 false (some x0)).bind fun t38 =>
    (pG t35 false (pIndexAddr 1 t37 t38)).bind fun t39 =>
    (pG t35 false (pLoadP t39)).bind fun t40 =>
    (pWant t35 false).bind fun t41 =>
    (pG t35 false (some x3)).bind fun t42 =>
    (pG t35 false ((G 97 [t40, t42, vi 100]).bind (fin false))).bind fun t43 =>
    (pG t35 false (pUn .not t43)).bind fun t44 =>
    (pPick t35 (vb true) t44).bind fun t45 =>
    (pBool t45).bind fun t46 =>
    brn t46 (
      some ((vb false, []))) (
      (pBin .add false x0 (vi 1)).bind fun t47 =>
      L50_0 t47 x1 x2 x3)) (
    some ((vb true, []))) :=
  (H_eq Tryz.func50 rfl).trans (by kernel_rfl)
theorem g51 (a0 a1 : A) : G 51 [a0, a1] =
  (pCells 3 a0).bind fun t0 =>
  (pCells 2 a1).bind fun t1 =>
  (pBin .eql false (cGet t1 0) (sv [61])).bind fun t2 =>
  (pWant t2 true).bind fun t3 =>
  (pG t2 true ((G 64 [A.agg [cGet t1 0, cGet t1 1]]).bind (fin false))).bind fun t4 =>
  (pPick t2 t4 (vb false)).bind fun t5 =>
  (pWant t5 true).bind fun t6 =>
  (pWant t5 true).bind fun t7 =>
  (pG t5 true (some (cGet t1 1))).bind fun t8 =>
  (pG t5 true (pIndexAddr 2 t8 (vi 0))).bind fun t9 =>
  (pG t5 true (pLoadN 2 t9)).bind fun t10 =>
  (pG t5 true ((G 100 [A.agg [cGet t0 0, cGet t0 1, cGet t0 2], t10]).bind (fin false))).bind fun t11 =>
  (pPick t5 t11 (vb false)).bind fun t12 =>
  (pWant t12 true).bind fun t13 =>
  (pWant t12 true).bind fun t14 =>
  (pG t12 true (some (cGet t1 1))).bind fun t15 =>
  (pG t12 true (pIndexAddr 2 t15 (vi 1))).bind fun t16 =>
  (pG t12 true (pLoadN 2 t16)).bind fun t17 =>
  (pG t12 true ((G 100 [A.agg [cGet t0 0, cGet t0 1, cGet t0 2], t17]).bind (fin false))).bind fun t18 =>
  (pPick t12 t18 (vb false)).bind fun t19 =>
  some ((t19, [])) :=
  (G_eq rfl Tryz.func51 rfl rfl).trans (by kernel_rfl)
theorem g52 (a0 a1 a2 : A) : G 52 [a0, a1, a2] =
  (pCells 3 a0).bind fun t0 =>
  (pCells 2 a1).bind fun t1 =>
  (pCells 2 a2).bind fun t2 =>
  ((G 101 [A.agg [cGet t1 0, cGet t1 1], A.agg [cGet t2 0, cGet t2 1]]).bind (fin false)).bind fun t3 =>
  (pUn .not t3).bind fun t4 =>
  (pBool t4).bind fun t5 =>
  brn t5 (
    some ((vb false, []))) (
    ((G 102 [A.agg [cGet t0 0, cGet t0 1, cGet t0 2], A.agg [cGet t1 0, cGet t1 1]]).bind (fin false)).bind fun t6 =>
    ((G 102 [A.agg [cGet t0 0, cGet t0 1, cGet t0 2], A.agg [cGet t2 0, cGet t2 1]]).bind (fin false)).bind fun t7 =>
    (pBin .neq false t6 t7).bind fun t8 =>
    (pBool t8).bind fun t9 =>
    brn t9 (
      (pBin .gtr false t6 t7).bind fun t10 =>
      some ((t10, []))) (
      ((G 103 [cGet t1 0]).bind (fin false)).bind fun t11 =>
      (pWant t11 false).bind fun t12 =>
      (pG t11 false (some (cGet t2 0))).bind fun t13 =>
      (pG t11 false ((G 103 [t13]).bind (fin false))).bind fun t14 =>
      (pPick t11 (vb true) t14).bind fun t15 =>
      (pBool t15).bind fun t16 =>
      brn t16 (
        some ((vb false, []))) (
        ((G 104 [A.agg [cGet t0 0, cGet t0 1, cGet t0 2], A.agg [cGet t1 0, cGet t1 1], A.agg [cGet t2 0, cGet t2 1]]).bind (fin false)).bind fun t17 =>
        (pBin .neq false t17 (vi 0)).bind fun t18 =>
        (pBool t18).bind fun t19 =>
        brn t19 (
          (pBin .gtr false t17 (vi 0)).bind fun t20 =>
          some ((t20, []))) (
          ((G 105 [A.agg [cGet t1 0, cGet t1 1], A.agg [cGet t2 0, cGet t2 1]]).bind (fin false)).bind fun t21 =>
          (pBin .geq false t21 (vi 0)).bind fun t22 =>
          (pWant t22 true).bind fun t23 =>
          (pWant t22 true).bind fun t24 =>
          (pG t22 true (some (cGet t1 1))).bind fun t25 =>
          (pG t22 true (some t21)).bind fun t26 =>
          (pG t22 true (pIndexAddr 2 t25 t26)).bind fun t27 =>
          (pG t22 true (pLoadN 2 t27)).bind fun t28 =>
          (pWant t22 true).bind fun t29 =>
          (pG t22 true (some (cGet t2 1))).bind fun t30 =>
          (pG t22 true (some t21)).bind fun t31 =>
          (pG t22 true (pIndexAddr 2 t30 t31)).bind fun t32 =>
          (pG t22 true (pLoadN 2 t32)).bind fun t33 =>
          (pG t22 true ((G 52 [A.agg [cGet t0 0, cGet t0 1, cGet t0 2], t28, t33]).bind (fin false))).bind fun t34 =>
          (pPick t22 t34 (vb false)).bind fun t35 =>
          some ((t35, [])))))) :=
  (G_eq rfl Tryz.func52 rfl rfl).trans (by kernel_rfl)
theorem c54_0 (x0 : A) : C54_0 x0 =
  (pLenL x0).bind fun t0 =>
  (pMake 16 t0 t0).bind fun t1 =>
  L54c0_0 x0 (vi 0) (rRep t1 [sv []]) :=
  (V_eq rfl Tryz.func54 rfl rfl).trans (by kernel_rfl)
theorem l54c0_0 (x0 x1 : A) (r0 : List (List A)) : L54c0_0 x0 x1 r0 =
  (pLenL x0).bind fun t2 =>
  (pBin .lss false x1 t2).bind fun t3 =>
  (pBool t3).bind fun t4 =>
  brn t4 (
    (pIndexAddr 1 x0 x1).bind fun t5 =>
    (pLoadP t5).bind fun t6 =>
    (pIx (rLenN r0) x1).bind fun t7 =>
    brn (okA t6) (
      (rGet r0 t7).bind fun t8 =>
      (pBin .add false x1 (vi 1)).bind fun t9 =>
      L54c0_0 x0 t9 (rSet r0 t7 (cOver t8 0 [t6]))) (
      none)) (
    some ((A.top, [A.sl 1 r0]))) :=
  (H_eq Tryz.func54 rfl).trans (by kernel_rfl)
theorem c55_0 (x0 : A) : C55_0 x0 =
  (pLenL x0).bind fun t0 =>
  (pMake 8 t0 t0).bind fun t1 =>
  L55c0_0 x0 (vi 0) (rRep t1 [vi 0]) :=
  (V_eq rfl Tryz.func55 rfl rfl).trans (by kernel_rfl)
theorem l55c0_0 (x0 x1 : A) (r0 : List (List A)) : L55c0_0 x0 x1 r0 =
  (pLenL x0).bind fun t2 =>
  (pBin .lss false x1 t2).bind fun t3 =>
  (pBool t3).bind fun t4 =>
  brn t4 (
    (pIndexAddr 1 x0 x1).bind fun t5 =>
    (pLoadP t5).bind fun t6 =>
    (pIx (rLenN r0) x1).bind fun t7 =>
    brn (okA t6) (
      (rGet r0 t7).bind fun t8 =>
      (pBin .add false x1 (vi 1)).bind fun t9 =>
      L55c0_0 x0 t9 (rSet r0 t7 (cOver t8 0 [t6]))) (
      none)) (
    some ((A.top, [A.sl 1 r0]))) :=
  (H_eq Tryz.func55 rfl).trans (by kernel_rfl)
theorem g56 (a0 : A) : G 56 [a0] =
  (pCells 2 a0).bind fun t0 =>
  (pBin .eql false (cGet t0 0) (sv [61])).bind fun t1 =>
  some ((t1, [])) :=
  (G_eq rfl Tryz.func56 rfl rfl).trans (by kernel_rfl)
theorem g57 (a0 : A) : G 57 [a0] =
  (pCells 3 a0).bind fun t0 =>
  (pLenL (cGet t0 0)).bind fun t1 =>
  ((G 106 [t1, vi 1, vi 12]).bind (fin false)).bind fun t2 =>
  (pUn .not t2).bind fun t3 =>
  (pWant t3 false).bind fun t4 =>
  (pG t3 false (some (cGet t0 1))).bind fun t5 =>
  (pG t3 false (pLenL t5)).bind fun t6 =>
  (pWant t3 false).bind fun t7 =>
  (pG t3 false (some (cGet t0 0))).bind fun t8 =>
  (pG t3 false (pLenL t8)).bind fun t9 =>
  (pG t3 false (pBin .neq false t6 t9)).bind fun t10 =>
  (pPick t3 (vb true) t10).bind fun t11 =>
  (pWant t11 false).bind fun t12 =>
  (pG t11 false (some (cGet t0 2))).bind fun t13 =>
  (pG t11 false ((G 106 [t13, vi 1, vi 100]).bind (fin false))).bind fun t14 =>
  (pG t11 false (pUn .not t14)).bind fun t15 =>
  (pPick t11 (vb true) t15).bind fun t16 =>
  (pBool t16).bind fun t17 =>
  brn t17 (
    some ((vb false, []))) (
    (pLenL (cGet t0 0)).bind fun t18 =>
    L57_0 (cGet t0 0) t18 (vi 0) (cGet t0 0) (cGet t0 1) (cGet t0 2)) :=
  (G_eq rfl Tryz.func57 rfl rfl).trans (by kernel_rfl)
theorem l57_0 (x0 x1 x2 x3 x4 x5 : A) : L57_0 x0 x1 x2 x3 x4 x5 =
  (pBin .lss false x2 x1).bind fun t19 =>
  (pBool t19).bind fun t20 =>
  brn t20 (
    (pIndexAddr 1 x0 x2).bind fun t21 =>
    (pLoadP t21).bind fun t22 =>
    ((G 107 [t22]).bind (fin false)).bind fun t23 =>
    (pUn .not t23).bind fun t24 =>
    (pWant t24 false).bind fun t25 =>
    (pG t24 false (some x3)).bind fun t26 =>
    (pG t24 false (some x2)).bind fun t27 =>
    (pG t24 false (pSlice 1 t26 none (some t27))).bind fun t28 =>
    (pG t24 false (some t22)).bind fun t29 =>
    (pG t24 false ((G 108 [t28, t29]).bind (fin false))).bind fun t30 =>
    (pPick t24 (vb true) t30).bind fun t31 =>
    (pWant t31 false).bind fun t32 =>
    (pG t31 false (some x4)).bind fun t33 =>
    (pG t31 false (some x2)).bind fun t34 =>
    (pG t31 false (pIndexAddr 1 t33 t34)).bind fun t35 =>
    (pG t31 false (pLoadP t35)).bind fun t36 =>
    (pWant t31 false).bind fun t37 =>
    (pG t31 false (some x5)).bind fun t38 =>
    (pG t31 false ((G 106 [t36, t38, vi 100]).bind (fin false))).bind fun t39 =>
    (pG t31 false (pUn .not t39)).bind fun t40 =>
    (pPick t31 (vb true) t40).bind fun t41 =>
    (pBool t41).bind fun t42 =>
    brn t42 (
      some ((vb false, []))) (
      (pBin .add false x2 (vi 1)).bind fun t43 =>
      L57_0 x0 x1 t43 x3 x4 x5)) (
    some ((vb true, []))) :=
  (H_eq Tryz.func57 rfl).trans (by kernel_rfl)
theorem g58 (a0 a1 : A) : G 58 [a0, a1] =
  (pCells 3 a0).bind fun t0 =>
  (pCells 2 a1).bind fun t1 =>
  ((G 68 [A.agg [cGet t1 0, cGet t1 1]]).bind (fin false)).bind fun t2 =>
  (pUn .not t2).bind fun t3 =>
  (pBool t3).bind fun t4 =>
  brn t4 (
    some ((vb false, []))) (
    ((G 56 [A.agg [cGet t1 0, cGet t1 1]]).bind (fin false)).bind fun t5 =>
    (pBool t5).bind fun t6 =>
    brn t6 (
      (pIndexAddr 2 (cGet t1 1) (vi 0)).bind fun t7 =>
      (pLoadN 2 t7).bind fun t8 =>
      ((G 109 [A.agg [cGet t0 0, cGet t0 1, cGet t0 2], t8]).bind (fin false)).bind fun t9 =>
      (pWant t9 true).bind fun t10 =>
      (pWant t9 true).bind fun t11 =>
      (pG t9 true (some (cGet t1 1))).bind fun t12 =>
      (pG t9 true (pIndexAddr 2 t12 (vi 1))).bind fun t13 =>
      (pG t9 true (pLoadN 2 t13)).bind fun t14 =>
      (pG t9 true ((G 109 [A.agg [cGet t0 0, cGet t0 1, cGet t0 2], t14]).bind (fin false))).bind fun t15 =>
      (pPick t9 t15 (vb false)).bind fun t16 =>
      some ((t16, []))) (
      ((G 109 [A.agg [cGet t0 0, cGet t0 1, cGet t0 2], A.agg [cGet t1 0, cGet t1 1]]).bind (fin false)).bind fun t17 =>
      some ((t17, [])))) :=
  (G_eq rfl Tryz.func58 rfl rfl).trans (by kernel_rfl)
theorem c59_0 (x0 x1 : A) : C59_0 x0 x1 =
  brn (okA x0) (
    brn (okA x1) (
      (C110_0 x1).bind fun t0 =>
      (hR 2 t0 0).bind fun t1 =>
      brn (okA x0) (
        brn (okA x0) (
          some ((A.top, [x0, A.sl 2 t1]))) (
          none)) (
        none)) (
      none)) (
    none) :=
  (V_eq rfl Tryz.func59 rfl rfl).trans (by kernel_rfl)
theorem g60 (a0 a1 a2 : A) : G 60 [a0, a1, a2] =
  (pCells 3 a0).bind fun t0 =>
  (pCells 2 a1).bind fun t1 =>
  (pCells 2 a2).bind fun t2 =>
  ((G 69 [A.agg [cGet t1 0, cGet t1 1], A.agg [cGet t2 0, cGet t2 1]]).bind (fin false)).bind fun t3 =>
  ((G 89 [t3, A.fn 111 [A.elt [cGet t0 0, cGet t0 1, cGet t0 2] 0, A.elt [cGet t1 0, cGet t1 1] 0, A.elt [cGet t2 0, cGet t2 1] 0], A.fn 112 [A.elt [cGet t0 0, cGet t0 1, cGet t0 2] 0, A.elt [cGet t2 0, cGet t2 1] 0, A.elt [cGet t1 0, cGet t1 1] 0]]).bind (fin true)).bind fun t4 =>
  some ((t4, [])) :=
  (G_eq rfl Tryz.func60 rfl rfl).trans (by kernel_rfl)
theorem g61 (a0 a1 : A) : G 61 [a0, a1] =
  (pLenL a0).bind fun t0 =>
  (pLenL a1).bind fun t1 =>
  (pBin .neq false t0 t1).bind fun t2 =>
  (pBool t2).bind fun t3 =>
  brn t3 (
    some ((vb false, []))) (
    L61_0 a0 a1 (vi 0)) :=
  (G_eq rfl Tryz.func61 rfl rfl).trans (by kernel_rfl)
theorem l61_0 (x0 x1 x2 : A) : L61_0 x0 x1 x2 =
  (pLenL x0).bind fun t4 =>
  (pBin .lss false x2 t4).bind fun t5 =>
  (pBool t5).bind fun t6 =>
  brn t6 (
    (pIndexAddr 1 x0 x2).bind fun t7 =>
    (pLoadP t7).bind fun t8 =>
    (pIndexAddr 1 x1 x2).bind fun t9 =>
    (pLoadP t9).bind fun t10 =>
    (pBin .neq false t8 t10).bind fun t11 =>
    (pBool t11).bind fun t12 =>
    brn t12 (
      some ((vb false, []))) (
      (pBin .add false x2 (vi 1)).bind fun t13 =>
      L61_0 x0 x1 t13)) (
    some ((vb true, []))) :=
  (H_eq Tryz.func61 rfl).trans (by kernel_rfl)
theorem c62_0 (x0 : A) (r0 : List (List A)) : C62_0 x0 r0 =
  L62c0_0 x0 (vi 0) r0 :=
  (V_eq rfl Tryz.func62 rfl rfl).trans (by kernel_rfl)
theorem l62c0_0 (x0 x1 : A) (r0 : List (List A)) : L62c0_0 x0 x1 r0 =
  (pBin .lss false x1 (rLen r0)).bind fun t0 =>
  (pBool t0).bind fun t1 =>
  brn t1 (
    ((G 75 [x0]).bind (fin false)).bind fun t2 =>
    (pIx (rLenN r0) x1).bind fun t3 =>
    brn (okA t2) (
      (rGet r0 t3).bind fun t4 =>
      (pBin .add false x0 (vi 1)).bind fun t5 =>
      (pBin .add false x1 (vi 1)).bind fun t6 =>
      L62c0_0 t5 t6 (rSet r0 t3 (cOver t4 0 [t2]))) (
      none)) (
    some ((A.top, [x0, A.sl 1 r0]))) :=
  (H_eq Tryz.func62 rfl).trans (by kernel_rfl)
theorem g64 (a0 : A) : G 64 [a0] =
  (pCells 2 a0).bind fun t0 =>
  (pBin .eql false (cGet t0 0) (sv [61])).bind fun t1 =>
  (pBool t1).bind fun t2 =>
  brn t2 (
    (pLenL (cGet t0 1)).bind fun t3 =>
    (pBin .eql false t3 (vi 2)).bind fun t4 =>
    (pWant t4 true).bind fun t5 =>
    (pG t4 true ((G 113 [A.agg [cGet t0 0, cGet t0 1]]).bind (fin false))).bind fun t6 =>
    (pPick t4 t6 (vb false)).bind fun t7 =>
    (pWant t7 true).bind fun t8 =>
    (pG t7 true (some (cGet t0 1))).bind fun t9 =>
    (pG t7 true (pIndexAddr 2 t9 (vi 0))).bind fun t10 =>
    (pG t7 true (pLoadN 2 t10)).bind fun t11 =>
    (pG t7 true ((G 114 [t11]).bind (fin false))).bind fun t12 =>
    (pPick t7 t12 (vb false)).bind fun t13 =>
    (pWant t13 true).bind fun t14 =>
    (pG t13 true (some (cGet t0 1))).bind fun t15 =>
    (pG t13 true (pIndexAddr 2 t15 (vi 1))).bind fun t16 =>
    (pG t13 true (pLoadN 2 t16)).bind fun t17 =>
    (pG t13 true ((G 114 [t17]).bind (fin false))).bind fun t18 =>
    (pPick t13 t18 (vb false)).bind fun t19 =>
    some ((t19, []))) (
    ((G 98 [cGet t0 0]).bind (fin false)).bind fun t20 =>
    (pWant t20 true).bind fun t21 =>
    (pG t20 true ((G 71 [A.agg [cGet t0 0, cGet t0 1]]).bind (fin false))).bind fun t22 =>
    (pPick t20 t22 (vb false)).bind fun t23 =>
    some ((t23, []))) :=
  (G_eq rfl Tryz.func64 rfl rfl).trans (by kernel_rfl)
theorem g67 (a0 a1 : A) : G 67 [a0, a1] =
  (pCells 2 a0).bind fun t0 =>
  (pCells 2 a1).bind fun t1 =>
  (pBin .neq false (cGet t0 0) (cGet t1 0)).bind fun t2 =>
  (pWant t2 false).bind fun t3 =>
  (pG t2 false (some (cGet t0 1))).bind fun t4 =>
  (pG t2 false (pLenL t4)).bind fun t5 =>
  (pWant t2 false).bind fun t6 =>
  (pG t2 false (some (cGet t1 1))).bind fun t7 =>
  (pG t2 false (pLenL t7)).bind fun t8 =>
  (pG t2 false (pBin .neq false t5 t8)).bind fun t9 =>
  (pPick t2 (vb true) t9).bind fun t10 =>
  (pBool t10).bind fun t11 =>
  brn t11 (
    some ((vb false, []))) (
    L67_0 (vi 0) (cGet t0 0) (cGet t0 1) (cGet t1 0) (cGet t1 1)) :=
  (G_eq rfl Tryz.func67 rfl rfl).trans (by kernel_rfl)
theorem l67_0 (x0 x1 x2 x3 x4 : A) : L67_0 x0 x1 x2 x3 x4 =
  (pLenL x2).bind fun t12 =>
  (pBin .lss false x0 t12).bind fun t13 =>
  (pBool t13).bind fun t14 =>
  brn t14 (
    (pIndexAddr 2 x2 x0).bind fun t15 =>
    (pLoadN 2 t15).bind fun t16 =>
    (pIndexAddr 2 x4 x0).bind fun t17 =>
    (pLoadN 2 t17).bind fun t18 =>
    ((G 67 [t16, t18]).bind (fin false)).bind fun t19 =>
    (pUn .not t19).bind fun t20 =>
    (pBool t20).bind fun t21 =>
    brn t21 (
      some ((vb false, []))) (
      (pBin .add false x0 (vi 1)).bind fun t22 =>
      L67_0 t22 x1 x2 x3 x4)) (
    some ((vb true, []))) :=
  (H_eq Tryz.func67 rfl).trans (by kernel_rfl)
theorem g68 (a0 : A) : G 68 [a0] =
  (pCells 2 a0).bind fun t0 =>
  ((G 56 [A.agg [cGet t0 0, cGet t0 1]]).bind (fin false)).bind fun t1 =>
  (pBool t1).bind fun t2 =>
  brn t2 (
    (pLenL (cGet t0 1)).bind fun t3 =>
    (pBin .eql false t3 (vi 2)).bind fun t4 =>
    (pWant t4 true).bind fun t5 =>
    (pG t4 true ((G 117 [A.agg [cGet t0 0, cGet t0 1]]).bind (fin false))).bind fun t6 =>
    (pPick t4 t6 (vb false)).bind fun t7 =>
    (pWant t7 true).bind fun t8 =>
    (pG t7 true (some (cGet t0 1))).bind fun t9 =>
    (pG t7 true (pIndexAddr 2 t9 (vi 0))).bind fun t10 =>
    (pG t7 true (pLoadN 2 t10)).bind fun t11 =>
    (pG t7 true ((G 118 [t11]).bind (fin false))).bind fun t12 =>
    (pPick t7 t12 (vb false)).bind fun t13 =>
    (pWant t13 true).bind fun t14 =>
    (pG t13 true (some (cGet t0 1))).bind fun t15 =>
    (pG t13 true (pIndexAddr 2 t15 (vi 1))).bind fun t16 =>
    (pG t13 true (pLoadN 2 t16)).bind fun t17 =>
    (pG t13 true ((G 118 [t17]).bind (fin false))).bind fun t18 =>
    (pPick t13 t18 (vb false)).bind fun t19 =>
    some ((t19, []))) (
    ((G 107 [cGet t0 0]).bind (fin false)).bind fun t20 =>
    (pWant t20 true).bind fun t21 =>
    (pG t20 true ((G 119 [A.agg [cGet t0 0, cGet t0 1]]).bind (fin false))).bind fun t22 =>
    (pPick t20 t22 (vb false)).bind fun t23 =>
    some ((t23, []))) :=
  (G_eq rfl Tryz.func68 rfl rfl).trans (by kernel_rfl)
theorem g69 (a0 a1 : A) : G 69 [a0, a1] =
  (pCells 2 a0).bind fun t0 =>
  (pCells 2 a1).bind fun t1 =>
  (pBin .eql false (cGet t0 0) (cGet t1 0)).bind fun t2 =>
  (pWant t2 true).bind fun t3 =>
  (pG t2 true (some (cGet t0 1))).bind fun t4 =>
  (pWant t2 true).bind fun t5 =>
  (pG t2 true (some (cGet t1 1))).bind fun t6 =>
  (pG t2 true ((G 120 [t4, t6, A.fn 69 []]).bind (fin false))).bind fun t7 =>
  (pPick t2 t7 (vb false)).bind fun t8 =>
  some ((t8, [])) :=
  (G_eq rfl Tryz.func69 rfl rfl).trans (by kernel_rfl)
theorem g71 (a0 : A) : G 71 [a0] =
  (pCells 2 a0).bind fun t0 =>
  ((G 113 [A.agg [cGet t0 0, cGet t0 1]]).bind (fin false)).bind fun t1 =>
  (pWant t1 true).bind fun t2 =>
  (pG t1 true ((G 114 [A.agg [cGet t0 0, cGet t0 1]]).bind (fin false))).bind fun t3 =>
  (pPick t1 t3 (vb false)).bind fun t4 =>
  some ((t4, [])) :=
  (G_eq rfl Tryz.func71 rfl rfl).trans (by kernel_rfl)
theorem g75 (a0 : A) : G 75 [a0] =
  (pBin .leq false a0 (vi 0)).bind fun t0 =>
  (pBool t0).bind fun t1 =>
  brn t1 (
    some ((sv [109, 48], []))) (
    L75_0 a0 (sv [])) :=
  (G_eq rfl Tryz.func75 rfl rfl).trans (by kernel_rfl)
theorem l75_0 (x0 x1 : A) : L75_0 x0 x1 =
  (pBin .gtr false x0 (vi 0)).bind fun t2 =>
  (pBool t2).bind fun t3 =>
  brn t3 (
    (pBin .rem false x0 (vi 10)).bind fun t4 =>
    (pBin .add false (vi 48) t4).bind fun t5 =>
    (pConv .u8 t5).bind fun t6 =>
    brn (okA t6) (
      (pBytes (A.sl 1 [[t6]])).bind fun t7 =>
      (pBin .add false t7 x1).bind fun t8 =>
      (pBin .quo false x0 (vi 10)).bind fun t9 =>
      L75_0 t9 t8) (
      none)) (
    (pBin .add false (sv [109]) x1).bind fun t10 =>
    some ((t10, []))) :=
  (H_eq Tryz.func75 rfl).trans (by kernel_rfl)
theorem g76 (a0 a1 : A) : G 76 [a0, a1] =
  (pLenL a0).bind fun t0 =>
  (pBin .sub false a1 t0).bind fun t1 =>
  (pBin .lss false t1 (vi 0)).bind fun t2 =>
  (pBool t2).bind fun t3 =>
  brn t3 (
    some ((vi (-1), []))) (
    L76_0 a0 t1 (vi 0)) :=
  (G_eq rfl Tryz.func76 rfl rfl).trans (by kernel_rfl)
theorem l76_0 (x0 x1 x2 : A) : L76_0 x0 x1 x2 =
  (pLenL x0).bind fun t4 =>
  (pBin .lss false x2 t4).bind fun t5 =>
  (pBool t5).bind fun t6 =>
  brn t6 (
    (pIndexAddr 3 x0 x2).bind fun t7 =>
    (pLoadN 3 t7).bind fun t8 =>
    ((G 125 [t8, x1]).bind (fin false)).bind fun t9 =>
    (pBin .lss false t9 (vi 0)).bind fun t10 =>
    (pBool t10).bind fun t11 =>
    brn t11 (
      some ((vi (-1), []))) (
      (pBin .add false x2 (vi 1)).bind fun t12 =>
      L76_0 x0 t9 t12)) (
    some ((x1, []))) :=
  (H_eq Tryz.func76 rfl).trans (by kernel_rfl)
theorem g77 (a0 a1 : A) : G 77 [a0, a1] =
  (pCells 3 a0).bind fun t0 =>
  (pCells 3 a1).bind fun t1 =>
  ((G 64 [A.agg [cGet t1 1, cGet t1 2]]).bind (fin false)).bind fun t2 =>
  (pUn .not t2).bind fun t3 =>
  (pBool t3).bind fun t4 =>
  brn t4 (
    some ((A.tup [A.sl 2 [], vb false], []))) (
    brn (okA (cGet t1 1)) (
      brn (okA (cGet t1 2)) (
        (pBin .eql false (cGet t1 1) (sv [61])).bind fun t5 =>
        (pBool t5).bind fun t6 =>
        brn t6 (
          L77_0 (cGet t1 2) (vi 0) (cGet t0 0) (cGet t0 1) (cGet t0 2) (cGet t1 0) (cGet t1 1) (cGet t1 2) []) (
          L77_1 (vi 0) (cGet t0 0) (cGet t0 1) (cGet t0 2) (cGet t1 0) (cGet t1 1) (cGet t1 2) [[cGet t1 1, cGet t1 2], [sv [], A.sl 2 []]] [])) (
        none)) (
      none)) :=
  (G_eq rfl Tryz.func77 rfl rfl).trans (by kernel_rfl)
theorem l77_0 (x0 x1 x2 x3 x4 x5 x6 x7 : A) (r0 : List (List A)) : L77_0 x0 x1 x2 x3 x4 x5 x6 x7 r0 =
  (pBin .lss false x1 (vi 2)).bind fun t7 =>
  (pBool t7).bind fun t8 =>
  brn t8 (
    (pIndexAddr 2 x0 x1).bind fun t9 =>
    (pAdd t9 0).bind fun t10 =>
    (pLoadP t10).bind fun t11 =>
    (pBin .neq false t11 (sv [])).bind fun t12 =>
    (pWant t12 true).bind fun t13 =>
    (pG t12 true (some x0)).bind fun t14 =>
    (pG t12 true (some x1)).bind fun t15 =>
    (pG t12 true (pIndexAddr 2 t14 t15)).bind fun t16 =>
    (pG t12 true (pLoadN 2 t16)).bind fun t17 =>
    (pG t12 true ((G 100 [A.agg [x2, x3, x4], t17]).bind (fin false))).bind fun t18 =>
    (pG t12 true (pUn .not t18)).bind fun t19 =>
    (pPick t12 t19 (vb false)).bind fun t20 =>
    (pBool t20).bind fun t21 =>
    brn t21 (
      some ((A.tup [A.sl 2 [], vb false], []))) (
      (pIndexAddr 2 x0 x1).bind fun t22 =>
      (pLoadN 2 t22).bind fun t23 =>
      (pCells 2 t23).bind fun t24 =>
      brn (pFit ((rLenN r0) + (rLenN [[cGet t24 0, cGet t24 1]])) 40) (
        (pUn .not x5).bind fun t25 =>
        (pBool t25).bind fun t26 =>
        brn t26 (
          (pIndexAddr 2 x0 x1).bind fun t27 =>
          (pLoadN 2 t27).bind fun t28 =>
          (pCells 2 t28).bind fun t29 =>
          brn (pFit ((rLenN (rApp r0 [[cGet t24 0, cGet t24 1]])) + (rLenN [[cGet t29 0, cGet t29 1]])) 40) (
            (pBin .add false x1 (vi 1)).bind fun t30 =>
            L77_0 x0 t30 x2 x3 x4 x5 x6 x7 (rApp (rApp r0 [[cGet t24 0, cGet t24 1]]) [[cGet t29 0, cGet t29 1]])) (
            none)) (
          (pBin .add false x1 (vi 1)).bind fun t31 =>
          L77_0 x0 t31 x2 x3 x4 x5 x6 x7 (rApp r0 [[cGet t24 0, cGet t24 1]]))) (
        none))) (
    some ((A.tup [A.sl 2 r0, vb true], []))) :=
  (H_eq Tryz.func77 rfl).trans (by kernel_rfl)
theorem l77_1 (x0 x1 x2 x3 x4 x5 x6 : A) (r0 r1 : List (List A)) : L77_1 x0 x1 x2 x3 x4 x5 x6 r0 r1 =
  (pBin .lss false x0 (vi 2)).bind fun t32 =>
  (pBool t32).bind fun t33 =>
  brn t33 (
    (pIx (rLenN r0) x0).bind fun t34 =>
    (pRowP r0 t34 0).bind fun t35 =>
    (pBin .neq false t35 (sv [])).bind fun t36 =>
    (pWant t36 true).bind fun t37 =>
    (pWant t36 true).bind fun t38 =>
    (pG t36 true (some x0)).bind fun t39 =>
    (pWant t36 true).bind fun t40 =>
    brn t40 (
      (pIx (rLenN r0) t39).bind fun t41 =>
      (pG t36 true (pRowN r0 t41 0 2)).bind fun t42 =>
      (pG t36 true ((G 100 [A.agg [x1, x2, x3], t42]).bind (fin false))).bind fun t43 =>
      (pG t36 true (pUn .not t43)).bind fun t44 =>
      (pPick t36 t44 (vb false)).bind fun t45 =>
      (pBool t45).bind fun t46 =>
      brn t46 (
        some ((A.tup [A.sl 2 [], vb false], []))) (
        (pIx (rLenN r0) x0).bind fun t47 =>
        (pRowN r0 t47 0 2).bind fun t48 =>
        (pCells 2 t48).bind fun t49 =>
        brn (pFit ((rLenN r1) + (rLenN [[cGet t49 0, cGet t49 1]])) 40) (
          (pUn .not x4).bind fun t50 =>
          (pBool t50).bind fun t51 =>
          brn t51 (
            (pIx (rLenN r0) x0).bind fun t52 =>
            (pRowN r0 t52 0 2).bind fun t53 =>
            (pCells 2 t53).bind fun t54 =>
            brn (pFit ((rLenN (rApp r1 [[cGet t49 0, cGet t49 1]])) + (rLenN [[cGet t54 0, cGet t54 1]])) 40) (
              (pBin .add false x0 (vi 1)).bind fun t55 =>
              L77_1 t55 x1 x2 x3 x4 x5 x6 r0 (rApp (rApp r1 [[cGet t49 0, cGet t49 1]]) [[cGet t54 0, cGet t54 1]])) (
              none)) (
            (pBin .add false x0 (vi 1)).bind fun t56 =>
            L77_1 t56 x1 x2 x3 x4 x5 x6 r0 (rApp r1 [[cGet t49 0, cGet t49 1]]))) (
          none))) (
      (pG t36 true (pLoadN 2 (A.val undef))).bind fun t57 =>
      (pG t36 true ((G 100 [A.agg [x1, x2, x3], t57]).bind (fin false))).bind fun t58 =>
      (pG t36 true (pUn .not t58)).bind fun t59 =>
      (pPick t36 t59 (vb false)).bind fun t60 =>
      (pBool t60).bind fun t61 =>
      brn t61 (
        some ((A.tup [A.sl 2 [], vb false], []))) (
        (pIx (rLenN r0) x0).bind fun t62 =>
        (pRowN r0 t62 0 2).bind fun t63 =>
        (pCells 2 t63).bind fun t64 =>
        brn (pFit ((rLenN r1) + (rLenN [[cGet t64 0, cGet t64 1]])) 40) (
          (pUn .not x4).bind fun t65 =>
          (pBool t65).bind fun t66 =>
          brn t66 (
            (pIx (rLenN r0) x0).bind fun t67 =>
            (pRowN r0 t67 0 2).bind fun t68 =>
            (pCells 2 t68).bind fun t69 =>
            brn (pFit ((rLenN (rApp r1 [[cGet t64 0, cGet t64 1]])) + (rLenN [[cGet t69 0, cGet t69 1]])) 40) (
              (pBin .add false x0 (vi 1)).bind fun t70 =>
              L77_1 t70 x1 x2 x3 x4 x5 x6 r0 (rApp (rApp r1 [[cGet t64 0, cGet t64 1]]) [[cGet t69 0, cGet t69 1]])) (
              none)) (
            (pBin .add false x0 (vi 1)).bind fun t71 =>
            L77_1 t71 x1 x2 x3 x4 x5 x6 r0 (rApp r1 [[cGet t64 0, cGet t64 1]]))) (
          none)))) (
    some ((A.tup [A.sl 2 r1, vb true], []))) :=
  (H_eq Tryz.func77 rfl).trans (by kernel_rfl)
theorem g78 (a0 a1 a2 : A) : G 78 [a0, a1, a2] =
  (pCells 3 a0).bind fun t0 =>
  ((G 126 [a1, a2]).bind (fin false)).bind fun t1 =>
  ((G 126 [a2, a1]).bind (fin false)).bind fun t2 =>
  L78_0 t1 t2 (vb true) (vb true) (vi 0) (cGet t0 0) (cGet t0 1) (cGet t0 2) :=
  (G_eq rfl Tryz.func78 rfl rfl).trans (by kernel_rfl)
theorem l78_0 (x0 x1 x2 x3 x4 x5 x6 x7 : A) : L78_0 x0 x1 x2 x3 x4 x5 x6 x7 =
  (pLenL x1).bind fun t3 =>
  (pBin .lss false x4 t3).bind fun t4 =>
  (pBool t4).bind fun t5 =>
  brn t5 (
    L78_1 x0 x1 x2 x3 x4 (vb false) (vi 0) x5 x6 x7) (
    L78_2 x0 x1 x2 x3 (vi 0) x5 x6 x7) :=
  (H_eq Tryz.func78 rfl).trans (by kernel_rfl)
theorem l78_1 (x0 x1 x2 x3 x4 x5 x6 x7 x8 x9 : A) : L78_1 x0 x1 x2 x3 x4 x5 x6 x7 x8 x9 =
  (pLenL x0).bind fun t6 =>
  (pBin .lss false x6 t6).bind fun t7 =>
  (pBool t7).bind fun t8 =>
  brn t8 (
    (pWant x5 false).bind fun t9 =>
    (pG x5 false (some x0)).bind fun t10 =>
    (pG x5 false (some x6)).bind fun t11 =>
    (pG x5 false (pIndexAddr 2 t10 t11)).bind fun t12 =>
    (pG x5 false (pLoadN 2 t12)).bind fun t13 =>
    (pG x5 false (some x1)).bind fun t14 =>
    (pG x5 false (some x4)).bind fun t15 =>
    (pG x5 false (pIndexAddr 2 t14 t15)).bind fun t16 =>
    (pG x5 false (pLoadN 2 t16)).bind fun t17 =>
    (pG x5 false ((G 127 [A.agg [x7, x8, x9], t13, t17]).bind (fin false))).bind fun t18 =>
    (pPick x5 (vb true) t18).bind fun t19 =>
    (pBin .add false x6 (vi 1)).bind fun t20 =>
    L78_1 x0 x1 x2 x3 x4 t19 t20 x7 x8 x9) (
    (pG x2 true (some x5)).bind fun t21 =>
    (pPick x2 t21 (vb false)).bind fun t22 =>
    (pBin .add false x4 (vi 1)).bind fun t23 =>
    L78_0 x0 x1 t22 x3 t23 x7 x8 x9) :=
  (H_eq Tryz.func78 rfl).trans (by kernel_rfl)
theorem l78_2 (x0 x1 x2 x3 x4 x5 x6 x7 : A) : L78_2 x0 x1 x2 x3 x4 x5 x6 x7 =
  (pLenL x0).bind fun t24 =>
  (pBin .lss false x4 t24).bind fun t25 =>
  (pBool t25).bind fun t26 =>
  brn t26 (
    L78_3 x0 x1 x2 x3 x4 (vb false) (vi 0) x5 x6 x7) (
    (pLenL x0).bind fun t27 =>
    (pLenL x1).bind fun t28 =>
    (pBin .add false t27 t28).bind fun t29 =>
    (pBin .eql false t29 (vi 0)).bind fun t30 =>
    ((G 88 [t30, x2, x3]).bind (fin false)).bind fun t31 =>
    some ((t31, []))) :=
  (H_eq Tryz.func78 rfl).trans (by kernel_rfl)
theorem l78_3 (x0 x1 x2 x3 x4 x5 x6 x7 x8 x9 : A) : L78_3 x0 x1 x2 x3 x4 x5 x6 x7 x8 x9 =
  (pLenL x1).bind fun t32 =>
  (pBin .lss false x6 t32).bind fun t33 =>
  (pBool t33).bind fun t34 =>
  brn t34 (
    (pWant x5 false).bind fun t35 =>
    (pG x5 false (some x1)).bind fun t36 =>
    (pG x5 false (some x6)).bind fun t37 =>
    (pG x5 false (pIndexAddr 2 t36 t37)).bind fun t38 =>
    (pG x5 false (pLoadN 2 t38)).bind fun t39 =>
    (pG x5 false (some x0)).bind fun t40 =>
    (pG x5 false (some x4)).bind fun t41 =>
    (pG x5 false (pIndexAddr 2 t40 t41)).bind fun t42 =>
    (pG x5 false (pLoadN 2 t42)).bind fun t43 =>
    (pG x5 false ((G 127 [A.agg [x7, x8, x9], t39, t43]).bind (fin false))).bind fun t44 =>
    (pPick x5 (vb true) t44).bind fun t45 =>
    (pBin .add false x6 (vi 1)).bind fun t46 =>
    L78_3 x0 x1 x2 x3 x4 t45 t46 x7 x8 x9) (
    (pG x3 true (some x5)).bind fun t47 =>
    (pPick x3 t47 (vb false)).bind fun t48 =>
    (pBin .add false x4 (vi 1)).bind fun t49 =>
    L78_2 x0 x1 x2 t48 t49 x7 x8 x9) :=
  (H_eq Tryz.func78 rfl).trans (by kernel_rfl)
theorem c79_0 (x0 : A) : C79_0 x0 =
  (pLenL x0).bind fun t0 =>
  (pMake 48 t0 t0).bind fun t1 =>
  L79c0_0 x0 (vi 0) (rRep t1 [vb false, sv [], A.sl 2 []]) :=
  (V_eq rfl Tryz.func79 rfl rfl).trans (by kernel_rfl)
theorem l79c0_0 (x0 x1 : A) (r0 : List (List A)) : L79c0_0 x0 x1 r0 =
  (pLenL x0).bind fun t2 =>
  (pBin .lss false x1 t2).bind fun t3 =>
  (pBool t3).bind fun t4 =>
  brn t4 (
    (pIndexAddr 3 x0 x1).bind fun t5 =>
    (pLoadN 3 t5).bind fun t6 =>
    (C128_0 t6).bind fun t7 =>
    (hD t7 0).bind fun t8 =>
    (hD t7 1).bind fun t9 =>
    (hR 66 t7 2).bind fun t10 =>
    (pIx (rLenN r0) x1).bind fun t11 =>
    brn (okA t8) (
      brn (okA t9) (
        brn (isVal t8) (
          brn (isVal t9) (
            (rGet r0 t11).bind fun t12 =>
            (pBin .add false x1 (vi 1)).bind fun t13 =>
            L79c0_0 x0 t13 (rSet r0 t11 (cOver t12 0 [t8, t9, A.sl 2 t10]))) (
            none)) (
          none)) (
        none)) (
      none)) (
    some ((A.top, [A.sl 67 r0]))) :=
  (H_eq Tryz.func79 rfl).trans (by kernel_rfl)
theorem g80 (a0 a1 : A) : G 80 [a0, a1] =
  (pCells 3 a0).bind fun t0 =>
  (pCells 1 a1).bind fun t1 =>
  ((G 129 [cGet t1 0, A.fn 130 [A.elt [cGet t0 0, cGet t0 1, cGet t0 2] 0]]).bind (fin true)).bind fun t2 =>
  (pUn .not t2).bind fun t3 =>
  some ((t3, [])) :=
  (G_eq rfl Tryz.func80 rfl rfl).trans (by kernel_rfl)
theorem c81_0 (x0 x1 x2 x3 : A) : C81_0 x0 x1 x2 x3 =
  brn (okA x0) (
    brn (okA x1) (
      brn (okA x2) (
        brn (okA x3) (
          (pLenL x3).bind fun t0 =>
          L81c0_0 x3 t0 (vi 0) x0 x1 x2 x3 []) (
          none)) (
        none)) (
      none)) (
    none) :=
  (V_eq rfl Tryz.func81 rfl rfl).trans (by kernel_rfl)
theorem l81c0_0 (x0 x1 x2 x3 x4 x5 x6 : A) (r0 : List (List A)) : L81c0_0 x0 x1 x2 x3 x4 x5 x6 r0 =
  (pBin .lss false x2 x1).bind fun t1 =>
  (pBool t1).bind fun t2 =>
  brn t2 (
    (pIndexAddr 3 x0 x2).bind fun t3 =>
    (pLoadN 3 t3).bind fun t4 =>
    (pCells 3 t4).bind fun t5 =>
    ((G 129 [x6, A.fn 131 [A.elt [x3, x4, x5] 0, A.elt [cGet t5 0, cGet t5 1, cGet t5 2] 0]]).bind (fin true)).bind fun t6 =>
    (pUn .not t6).bind fun t7 =>
    (pBool t7).bind fun t8 =>
    brn t8 (
      brn (okA x2) (
        brn (pFit ((rLenN r0) + (rLenN [[x2]])) 8) (
          (pBin .add false x2 (vi 1)).bind fun t9 =>
          L81c0_0 x0 x1 t9 x3 x4 x5 x6 (rApp r0 [[x2]])) (
          none)) (
        none)) (
      (pBin .add false x2 (vi 1)).bind fun t10 =>
      L81c0_0 x0 x1 t10 x3 x4 x5 x6 r0)) (
    some ((A.top, [A.sl 1 r0]))) :=
  (H_eq Tryz.func81 rfl).trans (by kernel_rfl)
theorem g82 (a0 a1 : A) : G 82 [a0, a1] =
  (pLenL a0).bind fun t0 =>
  (pLenL a1).bind fun t1 =>
  (pBin .neq false t0 t1).bind fun t2 =>
  (pBool t2).bind fun t3 =>
  brn t3 (
    some ((vb false, []))) (
    L82_0 a0 a1 (vi 0)) :=
  (G_eq rfl Tryz.func82 rfl rfl).trans (by kernel_rfl)
theorem l82_0 (x0 x1 x2 : A) : L82_0 x0 x1 x2 =
  (pLenL x0).bind fun t4 =>
  (pBin .lss false x2 t4).bind fun t5 =>
  (pBool t5).bind fun t6 =>
  brn t6 (
    (pIndexAddr 3 x0 x2).bind fun t7 =>
    (pLoadN 3 t7).bind fun t8 =>
    (pIndexAddr 3 x1 x2).bind fun t9 =>
    (pLoadN 3 t9).bind fun t10 =>
    ((G 133 [t8, t10]).bind (fin false)).bind fun t11 =>
    (pUn .not t11).bind fun t12 =>
    (pBool t12).bind fun t13 =>
    brn t13 (
      some ((vb false, []))) (
      (pBin .add false x2 (vi 1)).bind fun t14 =>
      L82_0 x0 x1 t14)) (
    some ((vb true, []))) :=
  (H_eq Tryz.func82 rfl).trans (by kernel_rfl)
theorem c83_0 (x0 : A) (r0 : List (List A)) : C83_0 x0 r0 =
  L83c0_0 x0 (vi 0) r0 :=
  (V_eq rfl Tryz.func83 rfl rfl).trans (by kernel_rfl)
theorem l83c0_0 (x0 x1 : A) (r0 : List (List A)) : L83c0_0 x0 x1 r0 =
  (pBin .lss false x1 (rLen r0)).bind fun t0 =>
  (pBool t0).bind fun t1 =>
  brn t1 (
    (pBin .rem false x0 (vi 3)).bind fun t2 =>
    (pBin .eql false t2 (vi 0)).bind fun t3 =>
    (pIx (rLenN r0) x1).bind fun t4 =>
    brn (okA t3) (
      brn (isVal t3) (
        (rGet r0 t4).bind fun t5 =>
        brn (tVals t5 0 1) (
          (pBin .add false x0 (vi 1)).bind fun t6 =>
          ((G 75 [t6]).bind (fin false)).bind fun t7 =>
          (pIx (rLenN (rSet r0 t4 (cOver t5 0 [t3]))) x1).bind fun t8 =>
          brn (okA t7) (
            brn (isVal t7) (
              (rGet (rSet r0 t4 (cOver t5 0 [t3])) t8).bind fun t9 =>
              brn (tVals t9 1 1) (
                (pBin .add false t6 (vi 1)).bind fun t10 =>
                (pIx (rLenN (rSet (rSet r0 t4 (cOver t5 0 [t3])) t8 (cOver t9 1 [t7]))) x1).bind fun t11 =>
                (rGet (rSet (rSet r0 t4 (cOver t5 0 [t3])) t8 (cOver t9 1 [t7])) t11).bind fun t12 =>
                brn (isSlA (cGet t12 2)) (
                  (rGet (rSet (rSet r0 t4 (cOver t5 0 [t3])) t8 (cOver t9 1 [t7])) t11).bind fun t13 =>
                  (pRows 2 (cGet t13 2)).bind fun t14 =>
                  (C27_0 t10 t14).bind fun t15 =>
                  (hD t15 0).bind fun t16 =>
                  (hR 66 t15 1).bind fun t17 =>
                  (pBin .add false x1 (vi 1)).bind fun t18 =>
                  L83c0_0 t16 t18 (rSet (rSet (rSet r0 t4 (cOver t5 0 [t3])) t8 (cOver t9 1 [t7])) t11 (cOver t13 2 [A.sl 2 t17]))) (
                  none)) (
                none)) (
              none)) (
            none)) (
          none)) (
        none)) (
      none)) (
    some ((A.top, [x0, A.sl 67 r0]))) :=
  (H_eq Tryz.func83 rfl).trans (by kernel_rfl)
theorem g86 (a0 a1 : A) : G 86 [a0, a1] =
  (pCells 3 a0).bind fun t0 =>
  ((G 57 [A.agg [cGet t0 0, cGet t0 1, cGet t0 2]]).bind (fin false)).bind fun t1 =>
  (pG t1 true (some a1)).bind fun t2 =>
  (pWant t1 true).bind fun t3 =>
  (pG t1 true ((G 121 [t2, A.fn 139 [A.elt [cGet t0 0, cGet t0 1, cGet t0 2] 0]]).bind (fin true))).bind fun t4 =>
  (pG t1 true (pUn .not t4)).bind fun t5 =>
  (pPick t1 t5 (vb false)).bind fun t6 =>
  some ((t6, [])) :=
  (G_eq rfl Tryz.func86 rfl rfl).trans (by kernel_rfl)
theorem g87 (a0 a1 : A) : G 87 [a0, a1] =
  (pCells 3 a0).bind fun t0 =>
  (pCells 2 a1).bind fun t1 =>
  ((G 71 [A.agg [cGet t1 0, cGet t1 1]]).bind (fin false)).bind fun t2 =>
  (pWant t2 true).bind fun t3 =>
  (pWant t2 true).bind fun t4 =>
  (pG t2 true ((G 100 [A.agg [cGet t0 0, cGet t0 1, cGet t0 2], A.agg [cGet t1 0, cGet t1 1]]).bind (fin false))).bind fun t5 =>
  (pPick t2 t5 (vb false)).bind fun t6 =>
  some ((t6, [])) :=
  (G_eq rfl Tryz.func87 rfl rfl).trans (by kernel_rfl)
theorem g88 (a0 a1 a2 : A) : G 88 [a0, a1, a2] =
  (pBool a0).bind fun t0 =>
  brn t0 (
    some ((vi 1, []))) (
    (pBool a1).bind fun t1 =>
    brn t1 (
      some ((vi 2, []))) (
      (pBool a2).bind fun t2 =>
      brn t2 (
        some ((vi 3, []))) (
        some ((vi 0, []))))) :=
  (G_eq rfl Tryz.func88 rfl rfl).trans (by kernel_rfl)
theorem g89 (a0 a1 a2 : A) : G 89 [a0, a1, a2] =
  (pBool a0).bind fun t0 =>
  brn t0 (
    some ((vi 1, []))) (
    (DX.run K (MM K) (.callc a1 [] false)).bind fun t1 =>
    (pBool t1).bind fun t2 =>
    brn t2 (
      some ((vi 2, []))) (
      (DX.run K (MM K) (.callc a2 [] false)).bind fun t3 =>
      (pBool t3).bind fun t4 =>
      brn t4 (
        some ((vi 3, []))) (
        some ((vi 0, []))))) :=
  (G_eq rfl Tryz.func89 rfl rfl).trans (by kernel_rfl)
theorem g90 (a0 a1 a2 : A) : G 90 [a0, a1, a2] =
  (pLoadN 3 a0).bind fun t0 =>
  (pLoadN 2 a1).bind fun t1 =>
  (pLoadN 2 a2).bind fun t2 =>
  ((G 91 [t0, t1, t2]).bind (fin false)).bind fun t3 =>
  some ((t3, [])) :=
  (G_eq rfl Tryz.func90 rfl rfl).trans (by kernel_rfl)
theorem g91 (a0 a1 a2 : A) : G 91 [a0, a1, a2] =
  (pCells 3 a0).bind fun t0 =>
  (pCells 2 a1).bind fun t1 =>
  (pCells 2 a2).bind fun t2 =>
  ((G 140 [A.agg [cGet t1 0, cGet t1 1]]).bind (fin false)).bind fun t3 =>
  (pBool t3).bind fun t4 =>
  brn t4 (
    some ((vb false, []))) (
    ((G 121 [cGet t1 1, A.fn 141 [A.elt [cGet t2 0, cGet t2 1] 0, A.elt [cGet t0 0, cGet t0 1, cGet t0 2] 0]]).bind (fin true)).bind fun t5 =>
    (pBool t5).bind fun t6 =>
    brn t6 (
      some ((vb true, []))) (
      ((G 140 [A.agg [cGet t2 0, cGet t2 1]]).bind (fin false)).bind fun t7 =>
      (pWant t7 false).bind fun t8 =>
      (pG t7 false (some (cGet t2 1))).bind fun t9 =>
      (pWant t7 false).bind fun t10 =>
      (pG t7 false ((G 121 [t9, A.fn 142 [A.elt [cGet t0 0, cGet t0 1, cGet t0 2] 0, A.elt [cGet t1 0, cGet t1 1] 0]]).bind (fin true))).bind fun t11 =>
      (pPick t7 (vb true) t11).bind fun t12 =>
      (pBool t12).bind fun t13 =>
      brn t13 (
        some ((vb false, []))) (
        ((G 143 [A.agg [cGet t0 0, cGet t0 1, cGet t0 2], A.agg [cGet t2 0, cGet t2 1], A.agg [cGet t1 0, cGet t1 1]]).bind (fin false)).bind fun t14 =>
        (pBool t14).bind fun t15 =>
        brn t15 (
          some ((vb true, []))) (
          ((G 144 [A.agg [cGet t1 0, cGet t1 1], A.agg [cGet t2 0, cGet t2 1]]).bind (fin false)).bind fun t16 =>
          (pTup t16 0).bind fun t17 =>
          (pTup t16 1).bind fun t18 =>
          (pTup t16 2).bind fun t19 =>
          (pCells 2 t17).bind fun t20 =>
          (pCells 2 t18).bind fun t21 =>
          (pWant t19 true).bind fun t22 =>
          (pWant t19 true).bind fun t23 =>
          (pWant t19 true).bind fun t24 =>
          (pG t19 true ((G 91 [A.agg [cGet t0 0, cGet t0 1, cGet t0 2], A.agg [cGet t20 0, cGet t20 1], A.agg [cGet t21 0, cGet t21 1]]).bind (fin false))).bind fun t25 =>
          (pPick t19 t25 (vb false)).bind fun t26 =>
          some ((t26, [])))))) :=
  (G_eq rfl Tryz.func91 rfl rfl).trans (by kernel_rfl)
theorem g92 (a0 a1 a2 : A) : G 92 [a0, a1, a2] =
  (pLoadN 3 a0).bind fun t0 =>
  (pLoadN 2 a1).bind fun t1 =>
  (pLoadN 2 a2).bind fun t2 =>
  ((G 91 [t0, t1, t2]).bind (fin false)).bind fun t3 =>
  some ((t3, [])) :=
  (G_eq rfl Tryz.func92 rfl rfl).trans (by kernel_rfl)
theorem g93 (a0 a1 a2 : A) : G 93 [a0, a1, a2] =
  (pCells 3 a0).bind fun t0 =>
  (pCells 2 a1).bind fun t1 =>
  (pCells 2 a2).bind fun t2 =>
  ((G 103 [cGet t1 0]).bind (fin false)).bind fun t3 =>
  (pBool t3).bind fun t4 =>
  brn t4 (
    some ((vb false, []))) (
    L93_0 (vi 0) (cGet t0 0) (cGet t0 1) (cGet t0 2) (cGet t1 0) (cGet t1 1) (cGet t2 0) (cGet t2 1)) :=
  (G_eq rfl Tryz.func93 rfl rfl).trans (by kernel_rfl)
theorem l93_0 (x0 x1 x2 x3 x4 x5 x6 x7 : A) : L93_0 x0 x1 x2 x3 x4 x5 x6 x7 =
  (pLenL x5).bind fun t5 =>
  (pBin .lss false x0 t5).bind fun t6 =>
  (pBool t6).bind fun t7 =>
  brn t7 (
    (pIndexAddr 2 x5 x0).bind fun t8 =>
    (pLoadN 2 t8).bind fun t9 =>
    ((G 67 [t9, A.agg [x6, x7]]).bind (fin false)).bind fun t10 =>
    (pWant t10 false).bind fun t11 =>
    (pWant t10 false).bind fun t12 =>
    (pG t10 false (some x5)).bind fun t13 =>
    (pG t10 false (some x0)).bind fun t14 =>
    (pG t10 false (pIndexAddr 2 t13 t14)).bind fun t15 =>
    (pG t10 false (pLoadN 2 t15)).bind fun t16 =>
    (pWant t10 false).bind fun t17 =>
    (pG t10 false ((G 93 [A.agg [x1, x2, x3], t16, A.agg [x6, x7]]).bind (fin false))).bind fun t18 =>
    (pPick t10 (vb true) t18).bind fun t19 =>
    (pBool t19).bind fun t20 =>
    brn t20 (
      some ((vb true, []))) (
      (pBin .add false x0 (vi 1)).bind fun t21 =>
      L93_0 t21 x1 x2 x3 x4 x5 x6 x7)) (
    ((G 103 [x6]).bind (fin false)).bind fun t22 =>
    (pBool t22).bind fun t23 =>
    brn t23 (
      some ((vb false, []))) (
      ((G 104 [A.agg [x1, x2, x3], A.agg [x4, x5], A.agg [x6, x7]]).bind (fin false)).bind fun t24 =>
      (pBin .lss false t24 (vi 0)).bind fun t25 =>
      (pBool t25).bind fun t26 =>
      brn t26 (
        some ((vb false, []))) (
        L93_1 t24 (vi 0) x1 x2 x3 x4 x5 x6 x7))) :=
  (H_eq Tryz.func93 rfl).trans (by kernel_rfl)
theorem l93_1 (x0 x1 x2 x3 x4 x5 x6 x7 x8 : A) : L93_1 x0 x1 x2 x3 x4 x5 x6 x7 x8 =
  (pLenL x8).bind fun t27 =>
  (pBin .lss false x1 t27).bind fun t28 =>
  (pBool t28).bind fun t29 =>
  brn t29 (
    (pIndexAddr 2 x8 x1).bind fun t30 =>
    (pLoadN 2 t30).bind fun t31 =>
    ((G 93 [A.agg [x2, x3, x4], A.agg [x5, x6], t31]).bind (fin false)).bind fun t32 =>
    (pUn .not t32).bind fun t33 =>
    (pBool t33).bind fun t34 =>
    brn t34 (
      some ((vb false, []))) (
      (pBin .add false x1 (vi 1)).bind fun t35 =>
      L93_1 x0 t35 x2 x3 x4 x5 x6 x7 x8)) (
    (pBin .gtr false x0 (vi 0)).bind fun t36 =>
    (pBool t36).bind fun t37 =>
    brn t37 (
      some ((vb true, []))) (
      ((G 105 [A.agg [x5, x6], A.agg [x7, x8]]).bind (fin false)).bind fun t38 =>
      (pBin .geq false t38 (vi 0)).bind fun t39 =>
      (pWant t39 true).bind fun t40 =>
      (pWant t39 true).bind fun t41 =>
      (pG t39 true (some x6)).bind fun t42 =>
      (pG t39 true (some t38)).bind fun t43 =>
      (pG t39 true (pIndexAddr 2 t42 t43)).bind fun t44 =>
      (pG t39 true (pLoadN 2 t44)).bind fun t45 =>
      (pWant t39 true).bind fun t46 =>
      (pG t39 true (some x8)).bind fun t47 =>
      (pG t39 true (some t38)).bind fun t48 =>
      (pG t39 true (pIndexAddr 2 t47 t48)).bind fun t49 =>
      (pG t39 true (pLoadN 2 t49)).bind fun t50 =>
      (pG t39 true ((G 93 [A.agg [x2, x3, x4], t45, t50]).bind (fin false))).bind fun t51 =>
      (pPick t39 t51 (vb false)).bind fun t52 =>
      some ((t52, [])))) :=
  (H_eq Tryz.func93 rfl).trans (by kernel_rfl)
theorem g96 (a0 a1 a2 : A) : G 96 [a0, a1, a2] =
  (pCells 3 a0).bind fun t0 =>
  (pCells 2 a1).bind fun t1 =>
  (pCells 2 a2).bind fun t2 =>
  ((G 146 [A.agg [cGet t2 0, cGet t2 1]]).bind (fin false)).bind fun t3 =>
  (pLenL t3).bind fun t4 =>
  L96_0 t3 t4 (vi 0) (cGet t0 0) (cGet t0 1) (cGet t0 2) (cGet t1 0) (cGet t1 1) (cGet t2 0) (cGet t2 1) :=
  (G_eq rfl Tryz.func96 rfl rfl).trans (by kernel_rfl)
theorem l96_0 (x0 x1 x2 x3 x4 x5 x6 x7 x8 x9 : A) : L96_0 x0 x1 x2 x3 x4 x5 x6 x7 x8 x9 =
  (pBin .lss false x2 x1).bind fun t5 =>
  (pBool t5).bind fun t6 =>
  brn t6 (
    (pIndexAddr 1 x0 x2).bind fun t7 =>
    (pLoadP t7).bind fun t8 =>
    ((G 147 [A.agg [x6, x7], t8]).bind (fin false)).bind fun t9 =>
    ((G 147 [A.agg [x8, x9], t8]).bind (fin false)).bind fun t10 =>
    (pBin .lss false t9 t10).bind fun t11 =>
    (pBool t11).bind fun t12 =>
    brn t12 (
      some ((vb false, []))) (
      (pBin .add false x2 (vi 1)).bind fun t13 =>
      L96_0 x0 x1 t13 x3 x4 x5 x6 x7 x8 x9)) (
    ((G 148 [A.agg [x3, x4, x5], A.agg [x6, x7]]).bind (fin false)).bind fun t14 =>
    ((G 148 [A.agg [x3, x4, x5], A.agg [x8, x9]]).bind (fin false)).bind fun t15 =>
    (pBin .neq false t14 t15).bind fun t16 =>
    (pWant t16 false).bind fun t17 =>
    (pG t16 false ((G 140 [A.agg [x6, x7]]).bind (fin false))).bind fun t18 =>
    (pPick t16 (vb true) t18).bind fun t19 =>
    (pWant t19 false).bind fun t20 =>
    (pG t19 false ((G 140 [A.agg [x8, x9]]).bind (fin false))).bind fun t21 =>
    (pPick t19 (vb true) t21).bind fun t22 =>
    (pBool t22).bind fun t23 =>
    brn t23 (
      (pBin .gtr false t14 t15).bind fun t24 =>
      some ((t24, []))) (
      ((G 143 [A.agg [x3, x4, x5], A.agg [x8, x9], A.agg [x6, x7]]).bind (fin false)).bind fun t25 =>
      (pBool t25).bind fun t26 =>
      brn t26 (
        some ((vb true, []))) (
        ((G 144 [A.agg [x6, x7], A.agg [x8, x9]]).bind (fin false)).bind fun t27 =>
        (pTup t27 0).bind fun t28 =>
        (pTup t27 1).bind fun t29 =>
        (pTup t27 2).bind fun t30 =>
        (pCells 2 t28).bind fun t31 =>
        (pCells 2 t29).bind fun t32 =>
        (pWant t30 true).bind fun t33 =>
        (pWant t30 true).bind fun t34 =>
        (pWant t30 true).bind fun t35 =>
        (pG t30 true ((G 96 [A.agg [x3, x4, x5], A.agg [cGet t31 0, cGet t31 1], A.agg [cGet t32 0, cGet t32 1]]).bind (fin false))).bind fun t36 =>
        (pPick t30 t36 (vb false)).bind fun t37 =>
        some ((t37, []))))) :=
  (H_eq Tryz.func96 rfl).trans (by kernel_rfl)
theorem g97 (a0 a1 a2 : A) : G 97 [a0, a1, a2] =
  (pBin .geq false a0 a1).bind fun t0 =>
  (pG t0 true (some a0)).bind fun t1 =>
  (pG t0 true (some a2)).bind fun t2 =>
  (pG t0 true (pBin .leq false t1 t2)).bind fun t3 =>
  (pPick t0 t3 (vb false)).bind fun t4 =>
  some ((t4, [])) :=
  (G_eq rfl Tryz.func97 rfl rfl).trans (by kernel_rfl)
theorem g98 (a0 : A) : G 98 [a0] =
  (pLenS a0).bind fun t0 =>
  ((G 97 [t0, vi 1, vi 6]).bind (fin false)).bind fun t1 =>
  (pUn .not t1).bind fun t2 =>
  (pG t2 false (some a0)).bind fun t3 =>
  (pG t2 false (pIndexS t3 (vi 0))).bind fun t4 =>
  (pG t2 false (pBin .lss false t4 (vy 97))).bind fun t5 =>
  (pPick t2 (vb true) t5).bind fun t6 =>
  (pG t6 false (some a0)).bind fun t7 =>
  (pG t6 false (pIndexS t7 (vi 0))).bind fun t8 =>
  (pG t6 false (pBin .gtr false t8 (vy 122))).bind fun t9 =>
  (pPick t6 (vb true) t9).bind fun t10 =>
  (pBool t10).bind fun t11 =>
  brn t11 (
    some ((vb false, []))) (
    (pBin .eql false a0 (sv [116, 114, 117, 101])).bind fun t12 =>
    (pBool t12).bind fun t13 =>
    brn t13 (
      (pBool t12).bind fun t14 =>
      brn t14 (
        some ((vb false, []))) (
        L98_0 a0 (vi 1))) (
      (pBin .eql false a0 (sv [102, 97, 108, 115, 101])).bind fun t15 =>
      (pBool t15).bind fun t16 =>
      brn t16 (
        (pBool t15).bind fun t17 =>
        brn t17 (
          some ((vb false, []))) (
          L98_0 a0 (vi 1))) (
        (pBin .eql false a0 (sv [116, 114, 117, 116, 104])).bind fun t18 =>
        (pBool t18).bind fun t19 =>
        brn t19 (
          (pBool t18).bind fun t20 =>
          brn t20 (
            some ((vb false, []))) (
            L98_0 a0 (vi 1))) (
          (pBin .eql false a0 (sv [98, 111, 116, 104])).bind fun t21 =>
          (pBool t21).bind fun t22 =>
          brn t22 (
            (pBool t21).bind fun t23 =>
            brn t23 (
              some ((vb false, []))) (
              L98_0 a0 (vi 1))) (
            (pBin .eql false a0 (sv [101, 105, 116, 104, 101, 114])).bind fun t24 =>
            (pBool t24).bind fun t25 =>
            brn t25 (
              (pBool t24).bind fun t26 =>
              brn t26 (
                some ((vb false, []))) (
                L98_0 a0 (vi 1))) (
              (pBin .eql false a0 (sv [105, 102])).bind fun t27 =>
              (pBool t27).bind fun t28 =>
              brn t28 (
                (pBool t27).bind fun t29 =>
                brn t29 (
                  some ((vb false, []))) (
                  L98_0 a0 (vi 1))) (
                (pBin .eql false a0 (sv [97, 108, 108])).bind fun t30 =>
                (pBool t30).bind fun t31 =>
                brn t31 (
                  (pBool t30).bind fun t32 =>
                  brn t32 (
                    some ((vb false, []))) (
                    L98_0 a0 (vi 1))) (
                  (pBin .eql false a0 (sv [115, 111, 109, 101])).bind fun t33 =>
                  (pBool t33).bind fun t34 =>
                  brn t34 (
                    some ((vb false, []))) (
                    L98_0 a0 (vi 1)))))))))) :=
  (G_eq rfl Tryz.func98 rfl rfl).trans (by kernel_rfl)
theorem l98_0 (x0 x1 : A) : L98_0 x0 x1 =
  (pLenS x0).bind fun t35 =>
  (pBin .lss false x1 t35).bind fun t36 =>
  (pBool t36).bind fun t37 =>
  brn t37 (
    (pIndexS x0 x1).bind fun t38 =>
    ((G 149 [t38]).bind (fin false)).bind fun t39 =>
    (pUn .not t39).bind fun t40 =>
    (pG t40 true (some x0)).bind fun t41 =>
    (pG t40 true (some x1)).bind fun t42 =>
    (pG t40 true (pIndexS t41 t42)).bind fun t43 =>
    (pG t40 true (pBin .neq false t43 (vy 95))).bind fun t44 =>
    (pPick t40 t44 (vb false)).bind fun t45 =>
    (pBool t45).bind fun t46 =>
    brn t46 (
      some ((vb false, []))) (
      (pBin .add false x1 (vi 1)).bind fun t47 =>
      L98_0 x0 t47)) (
    some ((vb true, []))) :=
  (H_eq Tryz.func98 rfl).trans (by kernel_rfl)
theorem g99 (a0 a1 : A) : G 99 [a0, a1] =
  L99_0 a0 a1 (vi 0) :=
  (G_eq rfl Tryz.func99 rfl rfl).trans (by kernel_rfl)
theorem l99_0 (x0 x1 x2 : A) : L99_0 x0 x1 x2 =
  (pLenL x0).bind fun t0 =>
  (pBin .lss false x2 t0).bind fun t1 =>
  (pBool t1).bind fun t2 =>
  brn t2 (
    (pIndexAddr 1 x0 x2).bind fun t3 =>
    (pLoadP t3).bind fun t4 =>
    (pBin .eql false t4 x1).bind fun t5 =>
    (pBool t5).bind fun t6 =>
    brn t6 (
      some ((vb true, []))) (
      (pBin .add false x2 (vi 1)).bind fun t7 =>
      L99_0 x0 x1 t7)) (
    some ((vb false, []))) :=
  (H_eq Tryz.func99 rfl).trans (by kernel_rfl)
theorem g100 (a0 a1 : A) : G 100 [a0, a1] =
  (pCells 3 a0).bind fun t0 =>
  (pCells 2 a1).bind fun t1 =>
  ((G 103 [cGet t1 0]).bind (fin false)).bind fun t2 =>
  (pUn .not t2).bind fun t3 =>
  (pWant t3 true).bind fun t4 =>
  (pWant t3 true).bind fun t5 =>
  (pG t3 true (some (cGet t1 0))).bind fun t6 =>
  (pG t3 true ((G 150 [A.agg [cGet t0 0, cGet t0 1, cGet t0 2], t6]).bind (fin false))).bind fun t7 =>
  (pG t3 true (pBin .lss false t7 (vi 0))).bind fun t8 =>
  (pPick t3 t8 (vb false)).bind fun t9 =>
  (pBool t9).bind fun t10 =>
  brn t10 (
    some ((vb false, []))) (
    L100_0 (vi 0) (cGet t0 0) (cGet t0 1) (cGet t0 2) (cGet t1 0) (cGet t1 1)) :=
  (G_eq rfl Tryz.func100 rfl rfl).trans (by kernel_rfl)
theorem l100_0 (x0 x1 x2 x3 x4 x5 : A) : L100_0 x0 x1 x2 x3 x4 x5 =
  (pLenL x5).bind fun t11 =>
  (pBin .lss false x0 t11).bind fun t12 =>
  (pBool t12).bind fun t13 =>
  brn t13 (
    (pIndexAddr 2 x5 x0).bind fun t14 =>
    (pLoadN 2 t14).bind fun t15 =>
    ((G 100 [A.agg [x1, x2, x3], t15]).bind (fin false)).bind fun t16 =>
    (pUn .not t16).bind fun t17 =>
    (pBool t17).bind fun t18 =>
    brn t18 (
      some ((vb false, []))) (
      (pBin .add false x0 (vi 1)).bind fun t19 =>
      L100_0 t19 x1 x2 x3 x4 x5)) (
    some ((vb true, []))) :=
  (H_eq Tryz.func100 rfl).trans (by kernel_rfl)
theorem g101 (a0 a1 : A) : G 101 [a0, a1] =
  (pCells 2 a0).bind fun t0 =>
  (pCells 2 a1).bind fun t1 =>
  ((G 151 [A.agg [cGet t1 0, cGet t1 1]]).bind (fin false)).bind fun t2 =>
  L101_0 t2 (vi 0) (cGet t0 0) (cGet t0 1) (cGet t1 0) (cGet t1 1) :=
  (G_eq rfl Tryz.func101 rfl rfl).trans (by kernel_rfl)
theorem l101_0 (x0 x1 x2 x3 x4 x5 : A) : L101_0 x0 x1 x2 x3 x4 x5 =
  (pLenL x0).bind fun t3 =>
  (pBin .lss false x1 t3).bind fun t4 =>
  (pBool t4).bind fun t5 =>
  brn t5 (
    (pIndexAddr 1 x0 x1).bind fun t6 =>
    (pLoadP t6).bind fun t7 =>
    ((G 152 [A.agg [x2, x3], t7]).bind (fin false)).bind fun t8 =>
    (pIndexAddr 1 x0 x1).bind fun t9 =>
    (pLoadP t9).bind fun t10 =>
    ((G 152 [A.agg [x4, x5], t10]).bind (fin false)).bind fun t11 =>
    (pBin .lss false t8 t11).bind fun t12 =>
    (pBool t12).bind fun t13 =>
    brn t13 (
      some ((vb false, []))) (
      (pBin .add false x1 (vi 1)).bind fun t14 =>
      L101_0 x0 t14 x2 x3 x4 x5)) (
    some ((vb true, []))) :=
  (H_eq Tryz.func101 rfl).trans (by kernel_rfl)
theorem g102 (a0 a1 : A) : G 102 [a0, a1] =
  (pCells 3 a0).bind fun t0 =>
  (pCells 2 a1).bind fun t1 =>
  ((G 103 [cGet t1 0]).bind (fin false)).bind fun t2 =>
  (pUn .not t2).bind fun t3 =>
  (pBool t3).bind fun t4 =>
  brn t4 (
    ((G 150 [A.agg [cGet t0 0, cGet t0 1, cGet t0 2], cGet t1 0]).bind (fin false)).bind fun t5 =>
    (pIndexAddr 1 (cGet t0 1) t5).bind fun t6 =>
    (pLoadP t6).bind fun t7 =>
    L102_0 t7 (vi 0) (cGet t0 0) (cGet t0 1) (cGet t0 2) (cGet t1 0) (cGet t1 1)) (
    L102_0 (cGet t0 2) (vi 0) (cGet t0 0) (cGet t0 1) (cGet t0 2) (cGet t1 0) (cGet t1 1)) :=
  (G_eq rfl Tryz.func102 rfl rfl).trans (by kernel_rfl)
theorem l102_0 (x0 x1 x2 x3 x4 x5 x6 : A) : L102_0 x0 x1 x2 x3 x4 x5 x6 =
  (pLenL x6).bind fun t8 =>
  (pBin .lss false x1 t8).bind fun t9 =>
  (pBool t9).bind fun t10 =>
  brn t10 (
    (pIndexAddr 2 x6 x1).bind fun t11 =>
    (pLoadN 2 t11).bind fun t12 =>
    ((G 102 [A.agg [x2, x3, x4], t12]).bind (fin false)).bind fun t13 =>
    (pBin .add false x0 t13).bind fun t14 =>
    (pBin .add false x1 (vi 1)).bind fun t15 =>
    L102_0 t14 t15 x2 x3 x4 x5 x6) (
    some ((x0, []))) :=
  (H_eq Tryz.func102 rfl).trans (by kernel_rfl)
theorem g103 (a0 : A) : G 103 [a0] =
  (pLenS a0).bind fun t0 =>
  ((G 97 [t0, vi 1, vi 4]).bind (fin false)).bind fun t1 =>
  (pUn .not t1).bind fun t2 =>
  (pG t2 false (some a0)).bind fun t3 =>
  (pG t2 false (pIndexS t3 (vi 0))).bind fun t4 =>
  (pG t2 false (pBin .lss false t4 (vy 65))).bind fun t5 =>
  (pPick t2 (vb true) t5).bind fun t6 =>
  (pG t6 false (some a0)).bind fun t7 =>
  (pG t6 false (pIndexS t7 (vi 0))).bind fun t8 =>
  (pG t6 false (pBin .gtr false t8 (vy 90))).bind fun t9 =>
  (pPick t6 (vb true) t9).bind fun t10 =>
  (pBool t10).bind fun t11 =>
  brn t11 (
    some ((vb false, []))) (
    L103_0 a0 (vi 1)) :=
  (G_eq rfl Tryz.func103 rfl rfl).trans (by kernel_rfl)
theorem l103_0 (x0 x1 : A) : L103_0 x0 x1 =
  (pLenS x0).bind fun t12 =>
  (pBin .lss false x1 t12).bind fun t13 =>
  (pBool t13).bind fun t14 =>
  brn t14 (
    (pIndexS x0 x1).bind fun t15 =>
    ((G 149 [t15]).bind (fin false)).bind fun t16 =>
    (pUn .not t16).bind fun t17 =>
    (pBool t17).bind fun t18 =>
    brn t18 (
      some ((vb false, []))) (
      (pBin .add false x1 (vi 1)).bind fun t19 =>
      L103_0 x0 t19)) (
    some ((vb true, []))) :=
  (H_eq Tryz.func103 rfl).trans (by kernel_rfl)
theorem g104 (a0 a1 a2 : A) : G 104 [a0, a1, a2] =
  (pCells 3 a0).bind fun t0 =>
  (pCells 2 a1).bind fun t1 =>
  (pCells 2 a2).bind fun t2 =>
  ((G 150 [A.agg [cGet t0 0, cGet t0 1, cGet t0 2], cGet t1 0]).bind (fin false)).bind fun t3 =>
  ((G 150 [A.agg [cGet t0 0, cGet t0 1, cGet t0 2], cGet t2 0]).bind (fin false)).bind fun t4 =>
  (pBin .eql false t3 t4).bind fun t5 =>
  (pBool t5).bind fun t6 =>
  brn t6 (
    (pLenL (cGet t1 1)).bind fun t7 =>
    (pLenL (cGet t2 1)).bind fun t8 =>
    (pBin .lss false t7 t8).bind fun t9 =>
    (pBool t9).bind fun t10 =>
    brn t10 (
      some ((vi (-1), []))) (
      (pBin .gtr false t7 t8).bind fun t11 =>
      (pBool t11).bind fun t12 =>
      brn t12 (
        some ((vi 1, []))) (
        some ((vi 0, []))))) (
    (pBin .lss false t3 t4).bind fun t13 =>
    (pBool t13).bind fun t14 =>
    brn t14 (
      some ((vi (-1), []))) (
      (pBin .gtr false t3 t4).bind fun t15 =>
      (pBool t15).bind fun t16 =>
      brn t16 (
        some ((vi 1, []))) (
        some ((vi 0, []))))) :=
  (G_eq rfl Tryz.func104 rfl rfl).trans (by kernel_rfl)
theorem g105 (a0 a1 : A) : G 105 [a0, a1] =
  (pCells 2 a0).bind fun t0 =>
  (pCells 2 a1).bind fun t1 =>
  L105_0 (vi 0) (cGet t0 0) (cGet t0 1) (cGet t1 0) (cGet t1 1) :=
  (G_eq rfl Tryz.func105 rfl rfl).trans (by kernel_rfl)
theorem l105_0 (x0 x1 x2 x3 x4 : A) : L105_0 x0 x1 x2 x3 x4 =
  (pLenL x2).bind fun t2 =>
  (pBin .lss false x0 t2).bind fun t3 =>
  (pBool t3).bind fun t4 =>
  brn t4 (
    (pIndexAddr 2 x2 x0).bind fun t5 =>
    (pLoadN 2 t5).bind fun t6 =>
    (pIndexAddr 2 x4 x0).bind fun t7 =>
    (pLoadN 2 t7).bind fun t8 =>
    ((G 67 [t6, t8]).bind (fin false)).bind fun t9 =>
    (pUn .not t9).bind fun t10 =>
    (pBool t10).bind fun t11 =>
    brn t11 (
      some ((x0, []))) (
      (pBin .add false x0 (vi 1)).bind fun t12 =>
      L105_0 t12 x1 x2 x3 x4)) (
    some ((vi (-1), []))) :=
  (H_eq Tryz.func105 rfl).trans (by kernel_rfl)
theorem g106 (a0 a1 a2 : A) : G 106 [a0, a1, a2] =
  (pBin .geq false a0 a1).bind fun t0 =>
  (pG t0 true (some a0)).bind fun t1 =>
  (pG t0 true (some a2)).bind fun t2 =>
  (pG t0 true (pBin .leq false t1 t2)).bind fun t3 =>
  (pPick t0 t3 (vb false)).bind fun t4 =>
  some ((t4, [])) :=
  (G_eq rfl Tryz.func106 rfl rfl).trans (by kernel_rfl)
theorem g107 (a0 : A) : G 107 [a0] =
  (pLenS a0).bind fun t0 =>
  L107_0 a0 t0 (vi 0) :=
  (G_eq rfl Tryz.func107 rfl rfl).trans (by kernel_rfl)
theorem l107_0 (x0 x1 x2 : A) : L107_0 x0 x1 x2 =
  (pBin .lss false x2 x1).bind fun t1 =>
  (pBool t1).bind fun t2 =>
  brn t2 (
    (pBin .eql false x2 (vi 0)).bind fun t3 =>
    (pG t3 true (some x0)).bind fun t4 =>
    (pG t3 true (some x2)).bind fun t5 =>
    (pG t3 true (pIndexS t4 t5)).bind fun t6 =>
    (pG t3 true ((G 153 [t6]).bind (fin false))).bind fun t7 =>
    (pG t3 true (pUn .not t7)).bind fun t8 =>
    (pPick t3 t8 (vb false)).bind fun t9 =>
    (pG t9 false (some x0)).bind fun t10 =>
    (pG t9 false (some x2)).bind fun t11 =>
    (pG t9 false (pIndexS t10 t11)).bind fun t12 =>
    (pG t9 false ((G 153 [t12]).bind (fin false))).bind fun t13 =>
    (pG t9 false (pUn .not t13)).bind fun t14 =>
    (pG t9 false (some t14)).bind fun t15 =>
    (pG t15 true (some x0)).bind fun t16 =>
    (pG t15 true (some x2)).bind fun t17 =>
    (pG t15 true (pIndexS t16 t17)).bind fun t18 =>
    (pG t15 true ((G 154 [t18]).bind (fin false))).bind fun t19 =>
    (pG t15 true (pUn .not t19)).bind fun t20 =>
    (pG t9 false (pPick t15 t20 (vb false))).bind fun t21 =>
    (pG t9 false (some t21)).bind fun t22 =>
    (pG t22 true (some x0)).bind fun t23 =>
    (pG t22 true (some x2)).bind fun t24 =>
    (pG t22 true (pIndexS t23 t24)).bind fun t25 =>
    (pG t22 true (pBin .neq false t25 (vy 95))).bind fun t26 =>
    (pG t9 false (pPick t22 t26 (vb false))).bind fun t27 =>
    (pPick t9 (vb true) t27).bind fun t28 =>
    (pBool t28).bind fun t29 =>
    brn t29 (
      some ((vb false, []))) (
      (pBin .add false x2 (vi 1)).bind fun t30 =>
      L107_0 x0 x1 t30)) (
    (pLenS x0).bind fun t31 =>
    ((G 106 [t31, vi 1, vi 6]).bind (fin false)).bind fun t32 =>
    (pG t32 true ((G 155 []).bind (fin false))).bind fun t33 =>
    (pG t32 true (some x0)).bind fun t34 =>
    (pG t32 true ((G 108 [t33, t34]).bind (fin false))).bind fun t35 =>
    (pG t32 true (pUn .not t35)).bind fun t36 =>
    (pPick t32 t36 (vb false)).bind fun t37 =>
    some ((t37, []))) :=
  (H_eq Tryz.func107 rfl).trans (by kernel_rfl)
theorem g108 (a0 a1 : A) : G 108 [a0, a1] =
  ((G 156 [a0, a1]).bind (fin false)).bind fun t0 =>
  (pBin .geq false t0 (vi 0)).bind fun t1 =>
  some ((t1, [])) :=
  (G_eq rfl Tryz.func108 rfl rfl).trans (by kernel_rfl)
theorem g109 (a0 a1 : A) : G 109 [a0, a1] =
  (pCells 3 a0).bind fun t0 =>
  (pCells 2 a1).bind fun t1 =>
  ((G 140 [A.agg [cGet t1 0, cGet t1 1]]).bind (fin false)).bind fun t2 =>
  (pWant t2 false).bind fun t3 =>
  (pG t2 false (some (cGet t0 0))).bind fun t4 =>
  (pWant t2 false).bind fun t5 =>
  (pG t2 false (some (cGet t1 0))).bind fun t6 =>
  (pG t2 false ((G 108 [t4, t6]).bind (fin false))).bind fun t7 =>
  (pPick t2 (vb true) t7).bind fun t8 =>
  (pWant t8 true).bind fun t9 =>
  (pG t8 true (some (cGet t1 1))).bind fun t10 =>
  (pWant t8 true).bind fun t11 =>
  (pG t8 true ((G 121 [t10, A.fn 157 [A.elt [cGet t0 0, cGet t0 1, cGet t0 2] 0]]).bind (fin true))).bind fun t12 =>
  (pG t8 true (pUn .not t12)).bind fun t13 =>
  (pPick t8 t13 (vb false)).bind fun t14 =>
  some ((t14, [])) :=
  (G_eq rfl Tryz.func109 rfl rfl).trans (by kernel_rfl)
theorem c110_0 (x0 : A) : C110_0 x0 =
  (pLenL x0).bind fun t0 =>
  (pBin .eql false t0 (vi 0)).bind fun t1 =>
  (pBool t1).bind fun t2 =>
  brn t2 (
    some ((A.top, [A.sl 2 []]))) (
    (pLenL x0).bind fun t3 =>
    (pMake 40 t3 t3).bind fun t4 =>
    (pLenL x0).bind fun t5 =>
    L110c0_0 x0 t5 (vi 0) (rRep t4 [sv [], A.sl 2 []])) :=
  (V_eq rfl Tryz.func110 rfl rfl).trans (by kernel_rfl)
theorem l110c0_0 (x0 x1 x2 : A) (r0 : List (List A)) : L110c0_0 x0 x1 x2 r0 =
  (pBin .lss false x2 x1).bind fun t6 =>
  (pBool t6).bind fun t7 =>
  brn t7 (
    (pIndexAddr 2 x0 x2).bind fun t8 =>
    (pLoadN 2 t8).bind fun t9 =>
    (pCells 2 t9).bind fun t10 =>
    (C59_0 (cGet t10 0) (cGet t10 1)).bind fun t11 =>
    (hD t11 0).bind fun t12 =>
    (hR 2 t11 1).bind fun t13 =>
    (pIx (rLenN r0) x2).bind fun t14 =>
    brn (okA t12) (
      (rGet r0 t14).bind fun t15 =>
      (pBin .add false x2 (vi 1)).bind fun t16 =>
      L110c0_0 x0 x1 t16 (rSet r0 t14 (cOver t15 0 [t12, A.sl 2 t13]))) (
      none)) (
    some ((A.top, [A.sl 2 r0]))) :=
  (H_eq Tryz.func110 rfl).trans (by kernel_rfl)
theorem g111 (a0 a1 a2 : A) : G 111 [a0, a1, a2] =
  (pLoadN 3 a0).bind fun t0 =>
  (pLoadN 2 a1).bind fun t1 =>
  (pLoadN 2 a2).bind fun t2 =>
  ((G 96 [t0, t1, t2]).bind (fin false)).bind fun t3 =>
  some ((t3, [])) :=
  (G_eq rfl Tryz.func111 rfl rfl).trans (by kernel_rfl)
theorem g112 (a0 a1 a2 : A) : G 112 [a0, a1, a2] =
  (pLoadN 3 a0).bind fun t0 =>
  (pLoadN 2 a1).bind fun t1 =>
  (pLoadN 2 a2).bind fun t2 =>
  ((G 96 [t0, t1, t2]).bind (fin false)).bind fun t3 =>
  some ((t3, [])) :=
  (G_eq rfl Tryz.func112 rfl rfl).trans (by kernel_rfl)
theorem g113 (a0 : A) : G 113 [a0] =
  (pCells 2 a0).bind fun t0 =>
  ((G 158 [A.agg [cGet t0 0, cGet t0 1], vi 30]).bind (fin false)).bind fun t1 =>
  (pBin .leq false t1 (vi 30)).bind fun t2 =>
  (pWant t2 true).bind fun t3 =>
  (pG t2 true ((G 159 [A.agg [cGet t0 0, cGet t0 1]]).bind (fin false))).bind fun t4 =>
  (pG t2 true (pBin .leq false t4 (vi 8))).bind fun t5 =>
  (pPick t2 t5 (vb false)).bind fun t6 =>
  some ((t6, [])) :=
  (G_eq rfl Tryz.func113 rfl rfl).trans (by kernel_rfl)
theorem g114 (a0 : A) : G 114 [a0] =
  (pCells 2 a0).bind fun t0 =>
  ((G 103 [cGet t0 0]).bind (fin false)).bind fun t1 =>
  (pBool t1).bind fun t2 =>
  brn t2 (
    (pLenL (cGet t0 1)).bind fun t3 =>
    (pBin .eql false t3 (vi 0)).bind fun t4 =>
    some ((t4, []))) (
    ((G 98 [cGet t0 0]).bind (fin false)).bind fun t5 =>
    (pUn .not t5).bind fun t6 =>
    (pWant t6 false).bind fun t7 =>
    (pG t6 false (some (cGet t0 1))).bind fun t8 =>
    (pG t6 false (pLenL t8)).bind fun t9 =>
    (pG t6 false (pBin .gtr false t9 (vi 4))).bind fun t10 =>
    (pPick t6 (vb true) t10).bind fun t11 =>
    (pBool t11).bind fun t12 =>
    brn t12 (
      some ((vb false, []))) (
      L114_0 (vi 0) (cGet t0 0) (cGet t0 1))) :=
  (G_eq rfl Tryz.func114 rfl rfl).trans (by kernel_rfl)
theorem l114_0 (x0 x1 x2 : A) : L114_0 x0 x1 x2 =
  (pLenL x2).bind fun t13 =>
  (pBin .lss false x0 t13).bind fun t14 =>
  (pBool t14).bind fun t15 =>
  brn t15 (
    (pIndexAddr 2 x2 x0).bind fun t16 =>
    (pLoadN 2 t16).bind fun t17 =>
    ((G 114 [t17]).bind (fin false)).bind fun t18 =>
    (pUn .not t18).bind fun t19 =>
    (pBool t19).bind fun t20 =>
    brn t20 (
      some ((vb false, []))) (
      (pBin .add false x0 (vi 1)).bind fun t21 =>
      L114_0 t21 x1 x2)) (
    some ((vb true, []))) :=
  (H_eq Tryz.func114 rfl).trans (by kernel_rfl)
theorem g117 (a0 : A) : G 117 [a0] =
  (pCells 2 a0).bind fun t0 =>
  ((G 167 [A.agg [cGet t0 0, cGet t0 1]]).bind (fin false)).bind fun t1 =>
  (pBin .leq false t1 (vi 30)).bind fun t2 =>
  (pWant t2 true).bind fun t3 =>
  (pG t2 true ((G 168 [A.agg [cGet t0 0, cGet t0 1]]).bind (fin false))).bind fun t4 =>
  (pG t2 true (pBin .leq false t4 (vi 8))).bind fun t5 =>
  (pPick t2 t5 (vb false)).bind fun t6 =>
  some ((t6, [])) :=
  (G_eq rfl Tryz.func117 rfl rfl).trans (by kernel_rfl)
theorem g118 (a0 : A) : G 118 [a0] =
  (pCells 2 a0).bind fun t0 =>
  ((G 169 [cGet t0 0]).bind (fin false)).bind fun t1 =>
  (pBool t1).bind fun t2 =>
  brn t2 (
    (pLenL (cGet t0 1)).bind fun t3 =>
    (pBin .eql false t3 (vi 0)).bind fun t4 =>
    some ((t4, []))) (
    ((G 107 [cGet t0 0]).bind (fin false)).bind fun t5 =>
    (pWant t5 true).bind fun t6 =>
    (pG t5 true (some (cGet t0 1))).bind fun t7 =>
    (pG t5 true (pLenL t7)).bind fun t8 =>
    (pG t5 true (pBin .leq false t8 (vi 4))).bind fun t9 =>
    (pPick t5 t9 (vb false)).bind fun t10 =>
    (pWant t10 true).bind fun t11 =>
    (pG t10 true (some (cGet t0 1))).bind fun t12 =>
    (pG t10 true ((G 121 [t12, A.fn 170 []]).bind (fin false))).bind fun t13 =>
    (pG t10 true (pUn .not t13)).bind fun t14 =>
    (pPick t10 t14 (vb false)).bind fun t15 =>
    some ((t15, []))) :=
  (G_eq rfl Tryz.func118 rfl rfl).trans (by kernel_rfl)
theorem g119 (a0 : A) : G 119 [a0] =
  (pCells 2 a0).bind fun t0 =>
  ((G 117 [A.agg [cGet t0 0, cGet t0 1]]).bind (fin false)).bind fun t1 =>
  (pWant t1 true).bind fun t2 =>
  (pG t1 true ((G 118 [A.agg [cGet t0 0, cGet t0 1]]).bind (fin false))).bind fun t3 =>
  (pPick t1 t3 (vb false)).bind fun t4 =>
  some ((t4, [])) :=
  (G_eq rfl Tryz.func119 rfl rfl).trans (by kernel_rfl)
theorem g120 (a0 a1 a2 : A) : G 120 [a0, a1, a2] =
  (pLenL a0).bind fun t0 =>
  (pLenL a1).bind fun t1 =>
  (pBin .neq false t0 t1).bind fun t2 =>
  (pBool t2).bind fun t3 =>
  brn t3 (
    some ((vb false, []))) (
    (pLenL a0).bind fun t4 =>
    L120_0 a1 a2 a0 t4 (vi 0)) :=
  (G_eq rfl Tryz.func120 rfl rfl).trans (by kernel_rfl)
theorem l120_0 (x0 x1 x2 x3 x4 : A) : L120_0 x0 x1 x2 x3 x4 =
  (pBin .lss false x4 x3).bind fun t5 =>
  (pBool t5).bind fun t6 =>
  brn t6 (
    (pIndexAddr 2 x2 x4).bind fun t7 =>
    (pLoadN 2 t7).bind fun t8 =>
    (pCells 2 t8).bind fun t9 =>
    (pIndexAddr 2 x0 x4).bind fun t10 =>
    (pLoadN 2 t10).bind fun t11 =>
    (pCells 2 t11).bind fun t12 =>
    (DX.run K (MM K) (.callc x1 [A.agg [cGet t9 0, cGet t9 1], A.agg [cGet t12 0, cGet t12 1]] false)).bind fun t13 =>
    (pUn .not t13).bind fun t14 =>
    (pBool t14).bind fun t15 =>
    brn t15 (
      some ((vb false, []))) (
      (pBin .add false x4 (vi 1)).bind fun t16 =>
      L120_0 x0 x1 x2 x3 t16)) (
    some ((vb true, []))) :=
  (H_eq Tryz.func120 rfl).trans (by kernel_rfl)
theorem g121 (a0 a1 : A) : G 121 [a0, a1] =
  ((G 171 [a0, a1]).bind (fin false)).bind fun t0 =>
  (pBin .geq false t0 (vi 0)).bind fun t1 =>
  some ((t1, [])) :=
  (G_eq rfl Tryz.func121 rfl rfl).trans (by kernel_rfl)
theorem g125 (a0 a1 : A) : G 125 [a0, a1] =
  (pCells 3 a0).bind fun t0 =>
  ((G 10 [A.agg [cGet t0 1, cGet t0 2], a1]).bind (fin false)).bind fun t1 =>
  (pBin .lss false t1 (vi 0)).bind fun t2 =>
  (pBool t2).bind fun t3 =>
  brn t3 (
    some ((vi (-1), []))) (
    some ((t1, []))) :=
  (G_eq rfl Tryz.func125 rfl rfl).trans (by kernel_rfl)
theorem g126 (a0 a1 : A) : G 126 [a0, a1] =
  (pLenL a1).bind fun t0 =>
  (pMake 1 t0 t0).bind fun t1 =>
  L126_0 a0 a1 (vi 0) (rRep t1 [vb false]) [] :=
  (G_eq rfl Tryz.func126 rfl rfl).trans (by kernel_rfl)
theorem l126_0 (x0 x1 x2 : A) (r0 r1 : List (List A)) : L126_0 x0 x1 x2 r0 r1 =
  (pLenL x0).bind fun t2 =>
  (pBin .lss false x2 t2).bind fun t3 =>
  (pBool t3).bind fun t4 =>
  brn t4 (
    L126_1 x0 x1 x2 (vi (-1)) (vi 0) r0 r1) (
    some ((A.sl 2 r1, []))) :=
  (H_eq Tryz.func126 rfl).trans (by kernel_rfl)
theorem l126_1 (x0 x1 x2 x3 x4 : A) (r0 r1 : List (List A)) : L126_1 x0 x1 x2 x3 x4 r0 r1 =
  (pLenL x1).bind fun t5 =>
  (pBin .lss false x4 t5).bind fun t6 =>
  (pG t6 true (some x3)).bind fun t7 =>
  (pG t6 true (pBin .lss false t7 (vi 0))).bind fun t8 =>
  (pPick t6 t8 (vb false)).bind fun t9 =>
  (pBool t9).bind fun t10 =>
  brn t10 (
    (pIx (rLenN r0) x4).bind fun t11 =>
    (pRowP r0 t11 0).bind fun t12 =>
    (pUn .not t12).bind fun t13 =>
    (pG t13 true (some x0)).bind fun t14 =>
    (pG t13 true (some x2)).bind fun t15 =>
    (pG t13 true (pIndexAddr 2 t14 t15)).bind fun t16 =>
    (pG t13 true (pLoadN 2 t16)).bind fun t17 =>
    (pG t13 true (some x1)).bind fun t18 =>
    (pG t13 true (some x4)).bind fun t19 =>
    (pG t13 true (pIndexAddr 2 t18 t19)).bind fun t20 =>
    (pG t13 true (pLoadN 2 t20)).bind fun t21 =>
    (pG t13 true ((G 67 [t17, t21]).bind (fin false))).bind fun t22 =>
    (pPick t13 t22 (vb false)).bind fun t23 =>
    (pBool t23).bind fun t24 =>
    brn t24 (
      (pBin .add false x4 (vi 1)).bind fun t25 =>
      L126_1 x0 x1 x2 x4 t25 r0 r1) (
      (pBin .add false x4 (vi 1)).bind fun t26 =>
      L126_1 x0 x1 x2 x3 t26 r0 r1)) (
    (pBin .lss false x3 (vi 0)).bind fun t27 =>
    (pBool t27).bind fun t28 =>
    brn t28 (
      (pIndexAddr 2 x0 x2).bind fun t29 =>
      (pLoadN 2 t29).bind fun t30 =>
      (pCells 2 t30).bind fun t31 =>
      brn (pFit ((rLenN r1) + (rLenN [[cGet t31 0, cGet t31 1]])) 40) (
        (pBin .add false x2 (vi 1)).bind fun t32 =>
        L126_0 x0 x1 t32 r0 (rApp r1 [[cGet t31 0, cGet t31 1]])) (
        none)) (
      (pIx (rLenN r0) x3).bind fun t33 =>
      (rGet r0 t33).bind fun t34 =>
      (pBin .add false x2 (vi 1)).bind fun t35 =>
      L126_0 x0 x1 t35 (rSet r0 t33 (cOver t34 0 [vb true])) r1)) :=
  (H_eq Tryz.func126 rfl).trans (by kernel_rfl)
theorem g127 (a0 a1 a2 : A) : G 127 [a0, a1, a2] =
  (pCells 3 a0).bind fun t0 =>
  (pCells 2 a1).bind fun t1 =>
  (pCells 2 a2).bind fun t2 =>
  (pBin .eql false (cGet t1 0) (sv [])).bind fun t3 =>
  (pWant t3 false).bind fun t4 =>
  (pG t3 false (some (cGet t2 0))).bind fun t5 =>
  (pG t3 false (pBin .eql false t5 (sv []))).bind fun t6 =>
  (pPick t3 (vb true) t6).bind fun t7 =>
  (pBool t7).bind fun t8 =>
  brn t8 (
    (pBin .neq false (cGet t1 0) (sv [])).bind fun t9 =>
    some ((t9, []))) (
    ((G 52 [A.agg [cGet t0 0, cGet t0 1, cGet t0 2], A.agg [cGet t1 0, cGet t1 1], A.agg [cGet t2 0, cGet t2 1]]).bind (fin false)).bind fun t10 =>
    some ((t10, []))) :=
  (G_eq rfl Tryz.func127 rfl rfl).trans (by kernel_rfl)
theorem c128_0 (x0 : A) : C128_0 x0 =
  (pCells 3 x0).bind fun t0 =>
  brn (okA (cGet t0 0)) (
    (C13_0 (cGet t0 1) (cGet t0 2)).bind fun t1 =>
    (hD t1 0).bind fun t2 =>
    (hR 66 t1 1).bind fun t3 =>
    brn (okA t2) (
      brn (okA (cGet t0 0)) (
        brn (okA t2) (
          some ((A.top, [cGet t0 0, t2, A.sl 66 t3]))) (
          none)) (
        none)) (
      none)) (
    none) :=
  (V_eq rfl Tryz.func128 rfl rfl).trans (by kernel_rfl)
theorem g129 (a0 a1 : A) : G 129 [a0, a1] =
  ((G 175 [a0, a1]).bind (fin false)).bind fun t0 =>
  (pBin .geq false t0 (vi 0)).bind fun t1 =>
  some ((t1, [])) :=
  (G_eq rfl Tryz.func129 rfl rfl).trans (by kernel_rfl)
theorem g130 (a0 a1 : A) : G 130 [a0, a1] =
  (pCells 3 a0).bind fun t0 =>
  (pLoadN 3 a1).bind fun t1 =>
  ((G 58 [t1, A.agg [cGet t0 1, cGet t0 2]]).bind (fin false)).bind fun t2 =>
  (pUn .not t2).bind fun t3 =>
  some ((t3, [])) :=
  (G_eq rfl Tryz.func130 rfl rfl).trans (by kernel_rfl)
theorem g131 (a0 a1 a2 : A) : G 131 [a0, a1, a2] =
  (pCells 3 a0).bind fun t0 =>
  (pLoadN 3 a1).bind fun t1 =>
  (pLoadN 3 a2).bind fun t2 =>
  ((G 132 [t1, A.agg [cGet t0 0, cGet t0 1, cGet t0 2], t2]).bind (fin false)).bind fun t3 =>
  (pBin .eql false t3 (vi 2)).bind fun t4 =>
  some ((t4, [])) :=
  (G_eq rfl Tryz.func131 rfl rfl).trans (by kernel_rfl)
theorem g132 (a0 a1 a2 : A) : G 132 [a0, a1, a2] =
  (pCells 3 a0).bind fun t0 =>
  (pCells 3 a1).bind fun t1 =>
  (pCells 3 a2).bind fun t2 =>
  ((G 177 [A.agg [cGet t1 0, cGet t1 1, cGet t1 2]]).bind (fin false)).bind fun t3 =>
  ((G 177 [A.agg [cGet t2 0, cGet t2 1, cGet t2 2]]).bind (fin false)).bind fun t4 =>
  ((G 176 [A.agg [cGet t0 0, cGet t0 1, cGet t0 2], t3, t4]).bind (fin false)).bind fun t5 =>
  some ((t5, [])) :=
  (G_eq rfl Tryz.func132 rfl rfl).trans (by kernel_rfl)
theorem g133 (a0 a1 : A) : G 133 [a0, a1] =
  (pCells 3 a0).bind fun t0 =>
  (pCells 3 a1).bind fun t1 =>
  (pBin .neq true (cGet t0 0) (cGet t1 0)).bind fun t2 =>
  (pBool t2).bind fun t3 =>
  brn t3 (
    some ((vb false, []))) (
    ((G 15 [A.agg [cGet t0 1, cGet t0 2], A.agg [cGet t1 1, cGet t1 2]]).bind (fin false)).bind fun t4 =>
    (pUn .not t4).bind fun t5 =>
    (pBool t5).bind fun t6 =>
    brn t6 (
      some ((vb false, []))) (
      some ((vb true, [])))) :=
  (G_eq rfl Tryz.func133 rfl rfl).trans (by kernel_rfl)
theorem g139 (a0 a1 : A) : G 139 [a0, a1] =
  (pCells 2 a0).bind fun t0 =>
  ((G 119 [A.agg [cGet t0 0, cGet t0 1]]).bind (fin false)).bind fun t1 =>
  (pUn .not t1).bind fun t2 =>
  (pG t2 false (pLoadN 3 a1)).bind fun t3 =>
  (pWant t2 false).bind fun t4 =>
  (pG t2 false ((G 109 [t3, A.agg [cGet t0 0, cGet t0 1]]).bind (fin false))).bind fun t5 =>
  (pG t2 false (pUn .not t5)).bind fun t6 =>
  (pPick t2 (vb true) t6).bind fun t7 =>
  some ((t7, [])) :=
  (G_eq rfl Tryz.func139 rfl rfl).trans (by kernel_rfl)
theorem g140 (a0 : A) : G 140 [a0] =
  (pCells 2 a0).bind fun t0 =>
  (pIndexS (cGet t0 0) (vi 0)).bind fun t1 =>
  ((G 181 [t1]).bind (fin false)).bind fun t2 =>
  some ((t2, [])) :=
  (G_eq rfl Tryz.func140 rfl rfl).trans (by kernel_rfl)
theorem g141 (a0 a1 a2 : A) : G 141 [a0, a1, a2] =
  (pCells 2 a0).bind fun t0 =>
  (pLoadN 2 a1).bind fun t1 =>
  ((G 69 [A.agg [cGet t0 0, cGet t0 1], t1]).bind (fin false)).bind fun t2 =>
  (pG t2 false (pLoadN 3 a2)).bind fun t3 =>
  (pWant t2 false).bind fun t4 =>
  (pG t2 false (pLoadN 2 a1)).bind fun t5 =>
  (pG t2 false ((G 91 [t3, A.agg [cGet t0 0, cGet t0 1], t5]).bind (fin false))).bind fun t6 =>
  (pPick t2 (vb true) t6).bind fun t7 =>
  some ((t7, [])) :=
  (G_eq rfl Tryz.func141 rfl rfl).trans (by kernel_rfl)
theorem g142 (a0 a1 a2 : A) : G 142 [a0, a1, a2] =
  (pCells 2 a0).bind fun t0 =>
  (pLoadN 3 a1).bind fun t1 =>
  (pLoadN 2 a2).bind fun t2 =>
  ((G 91 [t1, t2, A.agg [cGet t0 0, cGet t0 1]]).bind (fin false)).bind fun t3 =>
  (pUn .not t3).bind fun t4 =>
  some ((t4, [])) :=
  (G_eq rfl Tryz.func142 rfl rfl).trans (by kernel_rfl)
theorem g143 (a0 a1 a2 : A) : G 143 [a0, a1, a2] =
  (pCells 3 a0).bind fun t0 =>
  (pCells 2 a1).bind fun t1 =>
  (pCells 2 a2).bind fun t2 =>
  ((G 156 [cGet t0 0, cGet t1 0]).bind (fin false)).bind fun t3 =>
  ((G 156 [cGet t0 0, cGet t2 0]).bind (fin false)).bind fun t4 =>
  (pBin .lss false t3 t4).bind fun t5 =>
  (pG t5 false (some t3)).bind fun t6 =>
  (pG t5 false (some t4)).bind fun t7 =>
  (pG t5 false (pBin .eql false t6 t7)).bind fun t8 =>
  (pG t5 false (some t8)).bind fun t9 =>
  (pWant t9 true).bind fun t10 =>
  (pG t9 true (some (cGet t1 1))).bind fun t11 =>
  (pG t9 true (pLenL t11)).bind fun t12 =>
  (pWant t9 true).bind fun t13 =>
  (pG t9 true (some (cGet t2 1))).bind fun t14 =>
  (pG t9 true (pLenL t14)).bind fun t15 =>
  (pG t9 true (pBin .lss false t12 t15)).bind fun t16 =>
  (pG t5 false (pPick t9 t16 (vb false))).bind fun t17 =>
  (pPick t5 (vb true) t17).bind fun t18 =>
  some ((t18, [])) :=
  (G_eq rfl Tryz.func143 rfl rfl).trans (by kernel_rfl)
theorem g144 (a0 a1 : A) : G 144 [a0, a1] =
  (pCells 2 a0).bind fun t0 =>
  (pCells 2 a1).bind fun t1 =>
  (pBin .neq false (cGet t0 0) (cGet t1 0)).bind fun t2 =>
  (pWant t2 false).bind fun t3 =>
  (pG t2 false (some (cGet t0 1))).bind fun t4 =>
  (pG t2 false (pLenL t4)).bind fun t5 =>
  (pWant t2 false).bind fun t6 =>
  (pG t2 false (some (cGet t1 1))).bind fun t7 =>
  (pG t2 false (pLenL t7)).bind fun t8 =>
  (pG t2 false (pBin .neq false t5 t8)).bind fun t9 =>
  (pPick t2 (vb true) t9).bind fun t10 =>
  (pBool t10).bind fun t11 =>
  brn t11 (
    some ((A.tup [A.agg [sv [], A.sl 2 []], A.agg [sv [], A.sl 2 []], vb false], []))) (
    (pLenL (cGet t0 1)).bind fun t12 =>
    L144_0 (cGet t0 1) t12 (vi 0) (cGet t1 0) (cGet t1 1) (sv []) (sv []) [] []) :=
  (G_eq rfl Tryz.func144 rfl rfl).trans (by kernel_rfl)
theorem l144_0 (x0 x1 x2 x3 x4 x5 x6 : A) (r0 r1 : List (List A)) : L144_0 x0 x1 x2 x3 x4 x5 x6 r0 r1 =
  (pBin .lss false x2 x1).bind fun t13 =>
  (pBool t13).bind fun t14 =>
  brn t14 (
    (pIndexAddr 2 x0 x2).bind fun t15 =>
    (pLoadN 2 t15).bind fun t16 =>
    (pCells 2 t16).bind fun t17 =>
    (pIndexAddr 2 x4 x2).bind fun t18 =>
    (pLoadN 2 t18).bind fun t19 =>
    ((G 69 [A.agg [cGet t17 0, cGet t17 1], t19]).bind (fin false)).bind fun t20 =>
    (pUn .not t20).bind fun t21 =>
    (pBool t21).bind fun t22 =>
    brn t22 (
      (pIndexAddr 2 x4 x2).bind fun t23 =>
      (pLoadN 2 t23).bind fun t24 =>
      brn (okA (cGet t17 0)) (
        brn (okA (cGet t17 1)) (
          (pCells 2 t24).bind fun t25 =>
          some ((A.tup [A.agg [cGet t17 0, cGet t17 1], A.agg [cGet t25 0, cGet t25 1], vb true], []))) (
          none)) (
        none)) (
      (pBin .add false x2 (vi 1)).bind fun t26 =>
      L144_0 x0 x1 t26 x3 x4 x5 x6 r0 r1)) (
    some ((A.tup [A.agg [sv [], A.sl 2 []], A.agg [sv [], A.sl 2 []], vb false], []))) :=
  (H_eq Tryz.func144 rfl).trans (by kernel_rfl)
theorem g146 (a0 : A) : G 146 [a0] =
  (pCells 2 a0).bind fun t0 =>
  (C182_0 (cGet t0 0) (cGet t0 1) []).bind fun t1 =>
  (hR 1 t1 0).bind fun t2 =>
  (C183_0 t2).bind fun t3 =>
  (hR 1 t3 0).bind fun t4 =>
  some ((A.sl 1 t4, [])) :=
  (G_eq rfl Tryz.func146 rfl rfl).trans (by kernel_rfl)
theorem g147 (a0 a1 : A) : G 147 [a0, a1] =
  (pCells 2 a0).bind fun t0 =>
  (pBin .eql false (cGet t0 0) a1).bind fun t1 =>
  (pBool t1).bind fun t2 =>
  brn t2 (
    (pLenL (cGet t0 1)).bind fun t3 =>
    L147_0 a1 (vi 1) (cGet t0 1) t3 (vi 0)) (
    (pLenL (cGet t0 1)).bind fun t4 =>
    L147_0 a1 (vi 0) (cGet t0 1) t4 (vi 0)) :=
  (G_eq rfl Tryz.func147 rfl rfl).trans (by kernel_rfl)
theorem l147_0 (x0 x1 x2 x3 x4 : A) : L147_0 x0 x1 x2 x3 x4 =
  (pBin .lss false x4 x3).bind fun t5 =>
  (pBool t5).bind fun t6 =>
  brn t6 (
    (pIndexAddr 2 x2 x4).bind fun t7 =>
    (pLoadN 2 t7).bind fun t8 =>
    (pCells 2 t8).bind fun t9 =>
    ((G 147 [A.agg [cGet t9 0, cGet t9 1], x0]).bind (fin false)).bind fun t10 =>
    (pBin .add false x1 t10).bind fun t11 =>
    (pBin .add false x4 (vi 1)).bind fun t12 =>
    L147_0 x0 t11 x2 x3 t12) (
    some ((x1, []))) :=
  (H_eq Tryz.func147 rfl).trans (by kernel_rfl)
theorem g148 (a0 a1 : A) : G 148 [a0, a1] =
  (pCells 3 a0).bind fun t0 =>
  (pCells 2 a1).bind fun t1 =>
  ((G 140 [A.agg [cGet t1 0, cGet t1 1]]).bind (fin false)).bind fun t2 =>
  (pBool t2).bind fun t3 =>
  brn t3 (
    some ((cGet t0 2, []))) (
    ((G 156 [cGet t0 0, cGet t1 0]).bind (fin false)).bind fun t4 =>
    (pIndexAddr 1 (cGet t0 1) t4).bind fun t5 =>
    (pLoadP t5).bind fun t6 =>
    (pLenL (cGet t1 1)).bind fun t7 =>
    L148_0 t6 (cGet t1 1) t7 (vi 0) (cGet t0 0) (cGet t0 1) (cGet t0 2)) :=
  (G_eq rfl Tryz.func148 rfl rfl).trans (by kernel_rfl)
theorem l148_0 (x0 x1 x2 x3 x4 x5 x6 : A) : L148_0 x0 x1 x2 x3 x4 x5 x6 =
  (pBin .lss false x3 x2).bind fun t8 =>
  (pBool t8).bind fun t9 =>
  brn t9 (
    (pIndexAddr 2 x1 x3).bind fun t10 =>
    (pLoadN 2 t10).bind fun t11 =>
    (pCells 2 t11).bind fun t12 =>
    ((G 148 [A.agg [x4, x5, x6], A.agg [cGet t12 0, cGet t12 1]]).bind (fin false)).bind fun t13 =>
    (pBin .add false x0 t13).bind fun t14 =>
    (pBin .add false x3 (vi 1)).bind fun t15 =>
    L148_0 t14 x1 x2 t15 x4 x5 x6) (
    some ((x0, []))) :=
  (H_eq Tryz.func148 rfl).trans (by kernel_rfl)
theorem g149 (a0 : A) : G 149 [a0] =
  (pBin .geq false a0 (vy 97)).bind fun t0 =>
  (pG t0 true (some a0)).bind fun t1 =>
  (pG t0 true (pBin .leq false t1 (vy 122))).bind fun t2 =>
  (pPick t0 t2 (vb false)).bind fun t3 =>
  (pG t3 false (some a0)).bind fun t4 =>
  (pG t3 false (pBin .geq false t4 (vy 48))).bind fun t5 =>
  (pG t3 false (some t5)).bind fun t6 =>
  (pG t6 true (some a0)).bind fun t7 =>
  (pG t6 true (pBin .leq false t7 (vy 57))).bind fun t8 =>
  (pG t3 false (pPick t6 t8 (vb false))).bind fun t9 =>
  (pPick t3 (vb true) t9).bind fun t10 =>
  some ((t10, [])) :=
  (G_eq rfl Tryz.func149 rfl rfl).trans (by kernel_rfl)
theorem g150 (a0 a1 : A) : G 150 [a0, a1] =
  (pCells 3 a0).bind fun t0 =>
  L150_0 a1 (vi 0) (cGet t0 0) (cGet t0 1) (cGet t0 2) :=
  (G_eq rfl Tryz.func150 rfl rfl).trans (by kernel_rfl)
theorem l150_0 (x0 x1 x2 x3 x4 : A) : L150_0 x0 x1 x2 x3 x4 =
  (pLenL x2).bind fun t1 =>
  (pBin .lss false x1 t1).bind fun t2 =>
  (pBool t2).bind fun t3 =>
  brn t3 (
    (pIndexAddr 1 x2 x1).bind fun t4 =>
    (pLoadP t4).bind fun t5 =>
    (pBin .eql false t5 x0).bind fun t6 =>
    (pBool t6).bind fun t7 =>
    brn t7 (
      some ((x1, []))) (
      (pBin .add false x1 (vi 1)).bind fun t8 =>
      L150_0 x0 t8 x2 x3 x4)) (
    some ((vi (-1), []))) :=
  (H_eq Tryz.func150 rfl).trans (by kernel_rfl)
theorem g151 (a0 : A) : G 151 [a0] =
  (pCells 2 a0).bind fun t0 =>
  ((G 184 [A.sl 1 [], A.agg [cGet t0 0, cGet t0 1]]).bind (fin false)).bind fun t1 =>
  some ((t1, [])) :=
  (G_eq rfl Tryz.func151 rfl rfl).trans (by kernel_rfl)
theorem g152 (a0 a1 : A) : G 152 [a0, a1] =
  (pCells 2 a0).bind fun t0 =>
  (pBin .eql false (cGet t0 0) a1).bind fun t1 =>
  (pBool t1).bind fun t2 =>
  brn t2 (
    L152_0 a1 (vi 1) (vi 0) (cGet t0 0) (cGet t0 1)) (
    L152_0 a1 (vi 0) (vi 0) (cGet t0 0) (cGet t0 1)) :=
  (G_eq rfl Tryz.func152 rfl rfl).trans (by kernel_rfl)
theorem l152_0 (x0 x1 x2 x3 x4 : A) : L152_0 x0 x1 x2 x3 x4 =
  (pLenL x4).bind fun t3 =>
  (pBin .lss false x2 t3).bind fun t4 =>
  (pBool t4).bind fun t5 =>
  brn t5 (
    (pIndexAddr 2 x4 x2).bind fun t6 =>
    (pLoadN 2 t6).bind fun t7 =>
    ((G 152 [t7, x0]).bind (fin false)).bind fun t8 =>
    (pBin .add false x1 t8).bind fun t9 =>
    (pBin .add false x2 (vi 1)).bind fun t10 =>
    L152_0 x0 t9 t10 x3 x4) (
    some ((x1, []))) :=
  (H_eq Tryz.func152 rfl).trans (by kernel_rfl)
theorem g153 (a0 : A) : G 153 [a0] =
  (pBin .geq false a0 (vy 97)).bind fun t0 =>
  (pG t0 true (some a0)).bind fun t1 =>
  (pG t0 true (pBin .leq false t1 (vy 122))).bind fun t2 =>
  (pPick t0 t2 (vb false)).bind fun t3 =>
  some ((t3, [])) :=
  (G_eq rfl Tryz.func153 rfl rfl).trans (by kernel_rfl)
theorem g154 (a0 : A) : G 154 [a0] =
  (pBin .geq false a0 (vy 48)).bind fun t0 =>
  (pG t0 true (some a0)).bind fun t1 =>
  (pG t0 true (pBin .leq false t1 (vy 57))).bind fun t2 =>
  (pPick t0 t2 (vb false)).bind fun t3 =>
  some ((t3, [])) :=
  (G_eq rfl Tryz.func154 rfl rfl).trans (by kernel_rfl)
theorem g155 : G 155 [] =
  some ((A.sl 1 [[sv [116, 114, 117, 101]], [sv [102, 97, 108, 115, 101]], [sv [116, 114, 117, 116, 104]], [sv [98, 111, 116, 104]], [sv [101, 105, 116, 104, 101, 114]], [sv [105, 102]], [sv [97, 108, 108]], [sv [115, 111, 109, 101]]], [])) :=
  (G_eq rfl Tryz.func155 rfl rfl).trans (by kernel_rfl)
theorem g156 (a0 a1 : A) : G 156 [a0, a1] =
  (pLenL a0).bind fun t0 =>
  L156_0 a0 a1 t0 (vi 0) :=
  (G_eq rfl Tryz.func156 rfl rfl).trans (by kernel_rfl)
theorem l156_0 (x0 x1 x2 x3 : A) : L156_0 x0 x1 x2 x3 =
  (pBin .lss false x3 x2).bind fun t1 =>
  (pBool t1).bind fun t2 =>
  brn t2 (
    (pIndexAddr 1 x0 x3).bind fun t3 =>
    (pLoadP t3).bind fun t4 =>
    (pBin .eql false x1 t4).bind fun t5 =>
    (pBool t5).bind fun t6 =>
    brn t6 (
      some ((x3, []))) (
      (pBin .add false x3 (vi 1)).bind fun t7 =>
      L156_0 x0 x1 x2 t7)) (
    some ((vi (-1), []))) :=
  (H_eq Tryz.func156 rfl).trans (by kernel_rfl)
theorem g157 (a0 a1 : A) : G 157 [a0, a1] =
  (pCells 2 a0).bind fun t0 =>
  (pLoadN 3 a1).bind fun t1 =>
  ((G 109 [t1, A.agg [cGet t0 0, cGet t0 1]]).bind (fin false)).bind fun t2 =>
  (pUn .not t2).bind fun t3 =>
  some ((t3, [])) :=
  (G_eq rfl Tryz.func157 rfl rfl).trans (by kernel_rfl)
theorem g158 (a0 a1 : A) : G 158 [a0, a1] =
  (pCells 2 a0).bind fun t0 =>
  L158_0 a1 (vi 1) (vi 0) (cGet t0 0) (cGet t0 1) :=
  (G_eq rfl Tryz.func158 rfl rfl).trans (by kernel_rfl)
theorem l158_0 (x0 x1 x2 x3 x4 : A) : L158_0 x0 x1 x2 x3 x4 =
  (pLenL x4).bind fun t1 =>
  (pBin .lss false x2 t1).bind fun t2 =>
  (pG t2 true (some x1)).bind fun t3 =>
  (pG t2 true (some x0)).bind fun t4 =>
  (pG t2 true (pBin .leq false t3 t4)).bind fun t5 =>
  (pPick t2 t5 (vb false)).bind fun t6 =>
  (pBool t6).bind fun t7 =>
  brn t7 (
    (pIndexAddr 2 x4 x2).bind fun t8 =>
    (pLoadN 2 t8).bind fun t9 =>
    (pBin .sub false x0 x1).bind fun t10 =>
    ((G 158 [t9, t10]).bind (fin false)).bind fun t11 =>
    (pBin .add false x1 t11).bind fun t12 =>
    (pBin .add false x2 (vi 1)).bind fun t13 =>
    L158_0 x0 t12 t13 x3 x4) (
    some ((x1, []))) :=
  (H_eq Tryz.func158 rfl).trans (by kernel_rfl)
theorem g159 (a0 : A) : G 159 [a0] =
  (pCells 2 a0).bind fun t0 =>
  L159_0 (vi 0) (vi 0) (cGet t0 0) (cGet t0 1) :=
  (G_eq rfl Tryz.func159 rfl rfl).trans (by kernel_rfl)
theorem l159_0 (x0 x1 x2 x3 : A) : L159_0 x0 x1 x2 x3 =
  (pLenL x3).bind fun t1 =>
  (pBin .lss false x1 t1).bind fun t2 =>
  (pBool t2).bind fun t3 =>
  brn t3 (
    (pIndexAddr 2 x3 x1).bind fun t4 =>
    (pLoadN 2 t4).bind fun t5 =>
    ((G 159 [t5]).bind (fin false)).bind fun t6 =>
    ((G 185 [x0, t6]).bind (fin false)).bind fun t7 =>
    (pBin .add false x1 (vi 1)).bind fun t8 =>
    L159_0 t7 t8 x2 x3) (
    (pBin .add false x0 (vi 1)).bind fun t9 =>
    some ((t9, []))) :=
  (H_eq Tryz.func159 rfl).trans (by kernel_rfl)
theorem g167 (a0 : A) : G 167 [a0] =
  (pCells 2 a0).bind fun t0 =>
  (pLenL (cGet t0 1)).bind fun t1 =>
  L167_0 (vi 1) (cGet t0 1) t1 (vi 0) :=
  (G_eq rfl Tryz.func167 rfl rfl).trans (by kernel_rfl)
theorem l167_0 (x0 x1 x2 x3 : A) : L167_0 x0 x1 x2 x3 =
  (pBin .lss false x3 x2).bind fun t2 =>
  (pBool t2).bind fun t3 =>
  brn t3 (
    (pIndexAddr 2 x1 x3).bind fun t4 =>
    (pLoadN 2 t4).bind fun t5 =>
    (pCells 2 t5).bind fun t6 =>
    (pBin .gtr false x0 (vi 30)).bind fun t7 =>
    (pBool t7).bind fun t8 =>
    brn t8 (
      some ((x0, []))) (
      ((G 167 [A.agg [cGet t6 0, cGet t6 1]]).bind (fin false)).bind fun t9 =>
      (pBin .add false x0 t9).bind fun t10 =>
      (pBin .add false x3 (vi 1)).bind fun t11 =>
      L167_0 t10 x1 x2 t11)) (
    some ((x0, []))) :=
  (H_eq Tryz.func167 rfl).trans (by kernel_rfl)
theorem g168 (a0 : A) : G 168 [a0] =
  (pCells 2 a0).bind fun t0 =>
  (pLenL (cGet t0 1)).bind fun t1 =>
  L168_0 (vi 0) (cGet t0 1) t1 (vi 0) :=
  (G_eq rfl Tryz.func168 rfl rfl).trans (by kernel_rfl)
theorem l168_0 (x0 x1 x2 x3 : A) : L168_0 x0 x1 x2 x3 =
  (pBin .lss false x3 x2).bind fun t2 =>
  (pBool t2).bind fun t3 =>
  brn t3 (
    (pIndexAddr 2 x1 x3).bind fun t4 =>
    (pLoadN 2 t4).bind fun t5 =>
    (pCells 2 t5).bind fun t6 =>
    ((G 168 [A.agg [cGet t6 0, cGet t6 1]]).bind (fin false)).bind fun t7 =>
    (pMax x0 t7).bind fun t8 =>
    (pBin .add false x3 (vi 1)).bind fun t9 =>
    L168_0 t8 x1 x2 t9) (
    (pBin .add false x0 (vi 1)).bind fun t10 =>
    some ((t10, []))) :=
  (H_eq Tryz.func168 rfl).trans (by kernel_rfl)
theorem g169 (a0 : A) : G 169 [a0] =
  (pLenS a0).bind fun t0 =>
  L169_0 a0 t0 (vi 0) :=
  (G_eq rfl Tryz.func169 rfl rfl).trans (by kernel_rfl)
theorem l169_0 (x0 x1 x2 : A) : L169_0 x0 x1 x2 =
  (pBin .lss false x2 x1).bind fun t1 =>
  (pBool t1).bind fun t2 =>
  brn t2 (
    (pBin .eql false x2 (vi 0)).bind fun t3 =>
    (pG t3 true (some x0)).bind fun t4 =>
    (pG t3 true (some x2)).bind fun t5 =>
    (pG t3 true (pIndexS t4 t5)).bind fun t6 =>
    (pG t3 true ((G 181 [t6]).bind (fin false))).bind fun t7 =>
    (pG t3 true (pUn .not t7)).bind fun t8 =>
    (pPick t3 t8 (vb false)).bind fun t9 =>
    (pG t9 false (some x2)).bind fun t10 =>
    (pG t9 false (pBin .gtr false t10 (vi 0))).bind fun t11 =>
    (pG t9 false (some t11)).bind fun t12 =>
    (pG t12 true (some x0)).bind fun t13 =>
    (pG t12 true (some x2)).bind fun t14 =>
    (pG t12 true (pIndexS t13 t14)).bind fun t15 =>
    (pG t12 true ((G 153 [t15]).bind (fin false))).bind fun t16 =>
    (pG t12 true (pUn .not t16)).bind fun t17 =>
    (pG t9 false (pPick t12 t17 (vb false))).bind fun t18 =>
    (pG t9 false (some t18)).bind fun t19 =>
    (pG t19 true (some x0)).bind fun t20 =>
    (pG t19 true (some x2)).bind fun t21 =>
    (pG t19 true (pIndexS t20 t21)).bind fun t22 =>
    (pG t19 true ((G 154 [t22]).bind (fin false))).bind fun t23 =>
    (pG t19 true (pUn .not t23)).bind fun t24 =>
    (pG t9 false (pPick t19 t24 (vb false))).bind fun t25 =>
    (pPick t9 (vb true) t25).bind fun t26 =>
    (pBool t26).bind fun t27 =>
    brn t27 (
      some ((vb false, []))) (
      (pBin .add false x2 (vi 1)).bind fun t28 =>
      L169_0 x0 x1 t28)) (
    (pLenS x0).bind fun t29 =>
    ((G 106 [t29, vi 1, vi 4]).bind (fin false)).bind fun t30 =>
    some ((t30, []))) :=
  (H_eq Tryz.func169 rfl).trans (by kernel_rfl)
theorem g170 (a0 : A) : G 170 [a0] =
  (pCells 2 a0).bind fun t0 =>
  ((G 118 [A.agg [cGet t0 0, cGet t0 1]]).bind (fin false)).bind fun t1 =>
  (pUn .not t1).bind fun t2 =>
  some ((t2, [])) :=
  (G_eq rfl Tryz.func170 rfl rfl).trans (by kernel_rfl)
theorem g171 (a0 a1 : A) : G 171 [a0, a1] =
  (pLenL a0).bind fun t0 =>
  L171_0 a0 a1 t0 (vi 0) :=
  (G_eq rfl Tryz.func171 rfl rfl).trans (by kernel_rfl)
theorem l171_0 (x0 x1 x2 x3 : A) : L171_0 x0 x1 x2 x3 =
  (pBin .lss false x3 x2).bind fun t1 =>
  (pBool t1).bind fun t2 =>
  brn t2 (
    (pIndexAddr 2 x0 x3).bind fun t3 =>
    (pLoadN 2 t3).bind fun t4 =>
    (DX.run K (MM K) (.callc x1 [t4] false)).bind fun t5 =>
    (pBool t5).bind fun t6 =>
    brn t6 (
      some ((x3, []))) (
      (pBin .add false x3 (vi 1)).bind fun t7 =>
      L171_0 x0 x1 x2 t7)) (
    some ((vi (-1), []))) :=
  (H_eq Tryz.func171 rfl).trans (by kernel_rfl)
theorem c171_0 (r0 r1 : List (List A)) : C171_0 r0 r1 =
  L171c0_0 (rLen r0) (vi 0) r0 r1 :=
  (V_eq rfl Tryz.func171 rfl rfl).trans (by kernel_rfl)
theorem l171c0_0 (x0 x1 : A) (r0 r1 : List (List A)) : L171c0_0 x0 x1 r0 r1 =
  (pBin .lss false x1 x0).bind fun t0 =>
  (pBool t0).bind fun t1 =>
  brn t1 (
    (pIx (rLenN r0) x1).bind fun t2 =>
    (pRowN r0 t2 0 2).bind fun t3 =>
    (C194_1 t3 r1).bind fun t4 =>
    (hD t4 0).bind fun t5 =>
    (hR 2 t4 1).bind fun t6 =>
    (pBool t5).bind fun t7 =>
    brn t7 (
      some ((A.top, [x1, A.sl 2 r0, A.sl 2 t6]))) (
      (pBin .add false x1 (vi 1)).bind fun t8 =>
      L171c0_1 x0 t8 r0 t6)) (
    some ((A.top, [vi (-1), A.sl 2 r0, A.sl 2 r1]))) :=
  (H_eq Tryz.func171 rfl).trans (by kernel_rfl)
theorem l171c0_1 (x0 x1 : A) (r0 r1 : List (List A)) : L171c0_1 x0 x1 r0 r1 =
  (pBin .lss false x1 x0).bind fun t9 =>
  (pBool t9).bind fun t10 =>
  brn t10 (
    (pIx (rLenN r0) x1).bind fun t11 =>
    (pRowN r0 t11 0 2).bind fun t12 =>
    (C194_1 t12 r1).bind fun t13 =>
    (hD t13 0).bind fun t14 =>
    (hR 2 t13 1).bind fun t15 =>
    (pBool t14).bind fun t16 =>
    brn t16 (
      some ((A.top, [x1, A.sl 2 r0, A.sl 2 t15]))) (
      (pBin .add false x1 (vi 1)).bind fun t17 =>
      L171c0_1 x0 t17 r0 t15)) (
    some ((A.top, [vi (-1), A.sl 2 r0, A.sl 2 r1]))) :=
  (H_eq Tryz.func171 rfl).trans (by kernel_rfl)
theorem g175 (a0 a1 : A) : G 175 [a0, a1] =
  (pLenL a0).bind fun t0 =>
  L175_0 a0 a1 t0 (vi 0) :=
  (G_eq rfl Tryz.func175 rfl rfl).trans (by kernel_rfl)
theorem l175_0 (x0 x1 x2 x3 : A) : L175_0 x0 x1 x2 x3 =
  (pBin .lss false x3 x2).bind fun t1 =>
  (pBool t1).bind fun t2 =>
  brn t2 (
    (pIndexAddr 3 x0 x3).bind fun t3 =>
    (pLoadN 3 t3).bind fun t4 =>
    (DX.run K (MM K) (.callc x1 [t4] false)).bind fun t5 =>
    (pBool t5).bind fun t6 =>
    brn t6 (
      some ((x3, []))) (
      (pBin .add false x3 (vi 1)).bind fun t7 =>
      L175_0 x0 x1 x2 t7)) (
    some ((vi (-1), []))) :=
  (H_eq Tryz.func175 rfl).trans (by kernel_rfl)
theorem g176 (a0 a1 a2 : A) : G 176 [a0, a1, a2] =
  (pCells 3 a0).bind fun t0 =>
  brn (okA a1) (
    brn (okA a2) (
      (C192_0 a2).bind fun t1 =>
      (hR 2 t1 0).bind fun t2 =>
      (C192_0 a1).bind fun t3 =>
      (hR 2 t3 0).bind fun t4 =>
      (C193_0 t4 t2).bind fun t5 =>
      (hR 2 t5 0).bind fun t6 =>
      (hR 2 t5 1).bind fun t7 =>
      (pBin .eql false (rLen t7) (vi 0)).bind fun t8 =>
      (pWant t8 true).bind fun t9 =>
      (pG t8 true (some (rLen t6))).bind fun t10 =>
      (pG t8 true (pBin .eql false t10 (vi 0))).bind fun t11 =>
      (pPick t8 t11 (vb false)).bind fun t12 =>
      ((G 89 [t12, A.fn 197 [A.elt [cGet t0 0, cGet t0 1, cGet t0 2] 0, A.elt [A.sl 2 t7] 0, A.elt [A.sl 2 t6] 0], A.fn 199 [A.elt [cGet t0 0, cGet t0 1, cGet t0 2] 0, A.elt [A.sl 2 t6] 0, A.elt [A.sl 2 t7] 0]]).bind (fin true)).bind fun t13 =>
      some ((t13, []))) (
      none)) (
    none) :=
  (G_eq rfl Tryz.func176 rfl rfl).trans (by kernel_rfl)
theorem g177 (a0 : A) : G 177 [a0] =
  (pCells 3 a0).bind fun t0 =>
  brn (okA (cGet t0 1)) (
    brn (okA (cGet t0 2)) (
      ((G 56 [A.agg [cGet t0 1, cGet t0 2]]).bind (fin false)).bind fun t1 =>
      (pBool t1).bind fun t2 =>
      brn t2 (
        (pUn .not (cGet t0 0)).bind fun t3 =>
        (pBool t3).bind fun t4 =>
        brn t4 (
          brn (okA (cGet t0 2)) (
            brn (okA (cGet t0 2)) (
              (C200_0 [[cGet t0 2], [cGet t0 2]]).bind fun t5 =>
              (hR 2 t5 0).bind fun t6 =>
              some ((A.sl 2 t6, []))) (
              none)) (
            none)) (
          some ((cGet t0 2, [])))) (
        (pUn .not (cGet t0 0)).bind fun t7 =>
        (pBool t7).bind fun t8 =>
        brn t8 (
          (C200_0 [[A.sl 2 [[cGet t0 1, cGet t0 2], [sv [], A.sl 2 []]]], [A.sl 2 [[cGet t0 1, cGet t0 2], [sv [], A.sl 2 []]]]]).bind fun t9 =>
          (hR 2 t9 0).bind fun t10 =>
          some ((A.sl 2 t10, []))) (
          some ((A.sl 2 [[cGet t0 1, cGet t0 2], [sv [], A.sl 2 []]], []))))) (
      none)) (
    none) :=
  (G_eq rfl Tryz.func177 rfl rfl).trans (by kernel_rfl)
theorem g181 (a0 : A) : G 181 [a0] =
  (pBin .geq false a0 (vy 65)).bind fun t0 =>
  (pG t0 true (some a0)).bind fun t1 =>
  (pG t0 true (pBin .leq false t1 (vy 90))).bind fun t2 =>
  (pPick t0 t2 (vb false)).bind fun t3 =>
  some ((t3, [])) :=
  (G_eq rfl Tryz.func181 rfl rfl).trans (by kernel_rfl)
theorem c182_0 (x0 x1 : A) (r0 : List (List A)) : C182_0 x0 x1 r0 =
  brn (okA x0) (
    brn (okA x1) (
      (pLenL x1).bind fun t0 =>
      (pBin .eql false t0 (vi 0)).bind fun t1 =>
      (pWant t1 true).bind fun t2 =>
      (pG t1 true ((G 140 [A.agg [x0, x1]]).bind (fin false))).bind fun t3 =>
      (pPick t1 t3 (vb false)).bind fun t4 =>
      (pBool t4).bind fun t5 =>
      brn t5 (
        ((G 108 [A.sl 1 r0, x0]).bind (fin true)).bind fun t6 =>
        (pUn .not t6).bind fun t7 =>
        (pBool t7).bind fun t8 =>
        brn t8 (
          brn (okA x0) (
            brn (pFit ((rLenN r0) + (rLenN [[x0]])) 16) (
              some ((A.top, [A.sl 1 (rApp r0 [[x0]])]))) (
              none)) (
            none)) (
          some ((A.top, [A.sl 1 r0])))) (
        (pLenL x1).bind fun t9 =>
        L182c0_0 x1 t9 (vi 0) r0)) (
      none)) (
    none) :=
  (V_eq rfl Tryz.func182 rfl rfl).trans (by kernel_rfl)
theorem l182c0_0 (x0 x1 x2 : A) (r0 : List (List A)) : L182c0_0 x0 x1 x2 r0 =
  (pBin .lss false x2 x1).bind fun t10 =>
  (pBool t10).bind fun t11 =>
  brn t11 (
    (pIndexAddr 2 x0 x2).bind fun t12 =>
    (pLoadN 2 t12).bind fun t13 =>
    (pCells 2 t13).bind fun t14 =>
    (C182_0 (cGet t14 0) (cGet t14 1) r0).bind fun t15 =>
    (hR 1 t15 0).bind fun t16 =>
    (pBin .add false x2 (vi 1)).bind fun t17 =>
    L182c0_1 x0 x1 t17 t16) (
    some ((A.top, [A.sl 1 r0]))) :=
  (H_eq Tryz.func182 rfl).trans (by kernel_rfl)
theorem l182c0_1 (x0 x1 x2 : A) (r0 : List (List A)) : L182c0_1 x0 x1 x2 r0 =
  (pBin .lss false x2 x1).bind fun t18 =>
  (pBool t18).bind fun t19 =>
  brn t19 (
    (pIndexAddr 2 x0 x2).bind fun t20 =>
    (pLoadN 2 t20).bind fun t21 =>
    (pCells 2 t21).bind fun t22 =>
    (C182_0 (cGet t22 0) (cGet t22 1) r0).bind fun t23 =>
    (hR 1 t23 0).bind fun t24 =>
    (pBin .add false x2 (vi 1)).bind fun t25 =>
    L182c0_1 x0 x1 t25 t24) (
    some ((A.top, [A.sl 1 r0]))) :=
  (H_eq Tryz.func182 rfl).trans (by kernel_rfl)
theorem c183_0 (r0 : List (List A)) : C183_0 r0 = Go.Proofs.YtjclanocnkankaaGreat.Abs.sortX [V.row 0] [.row 1 r0] :=
  X_eq rfl
theorem g184 (a0 a1 : A) : G 184 [a0, a1] =
  (pCells 2 a1).bind fun t0 =>
  ((G 103 [cGet t0 0]).bind (fin false)).bind fun t1 =>
  (pBool t1).bind fun t2 =>
  brn t2 (
    ((G 203 [a0, cGet t0 0]).bind (fin false)).bind fun t3 =>
    some ((t3, []))) (
    L184_0 a0 (vi 0) (cGet t0 0) (cGet t0 1)) :=
  (G_eq rfl Tryz.func184 rfl rfl).trans (by kernel_rfl)
theorem l184_0 (x0 x1 x2 x3 : A) : L184_0 x0 x1 x2 x3 =
  (pLenL x3).bind fun t4 =>
  (pBin .lss false x1 t4).bind fun t5 =>
  (pBool t5).bind fun t6 =>
  brn t6 (
    (pIndexAddr 2 x3 x1).bind fun t7 =>
    (pLoadN 2 t7).bind fun t8 =>
    ((G 184 [x0, t8]).bind (fin false)).bind fun t9 =>
    (pBin .add false x1 (vi 1)).bind fun t10 =>
    L184_0 t9 t10 x2 x3) (
    some ((x0, []))) :=
  (H_eq Tryz.func184 rfl).trans (by kernel_rfl)
theorem g185 (a0 a1 : A) : G 185 [a0, a1] =
  (pBin .gtr false a0 a1).bind fun t0 =>
  (pBool t0).bind fun t1 =>
  brn t1 (
    some ((a0, []))) (
    some ((a1, []))) :=
  (G_eq rfl Tryz.func185 rfl rfl).trans (by kernel_rfl)
theorem c192_0 (x0 : A) : C192_0 x0 =
  (pSlA x0).bind fun t0 =>
  brn (nz (rCnt t0)) (
    bth (
      some ((A.top, [A.sl 2 []]))) (
      (pRows 2 x0).bind fun t1 =>
      brn (pFit (rLenN t1) 40) (
        some ((A.top, [A.sl 2 t1]))) (
        none))) (
    (pRows 2 x0).bind fun t2 =>
    brn (pFit (rLenN t2) 40) (
      some ((A.top, [A.sl 2 t2]))) (
      none)) :=
  (V_eq rfl Tryz.func192 rfl rfl).trans (by kernel_rfl)
theorem c193_0 (r0 r1 : List (List A)) : C193_0 r0 r1 =
  (C171_0 r0 r1).bind fun t0 =>
  (hD t0 0).bind fun t1 =>
  (hR 2 t0 1).bind fun t2 =>
  (hR 2 t0 2).bind fun t3 =>
  (pBin .eql false t1 (vi (-1))).bind fun t4 =>
  (pBool t4).bind fun t5 =>
  brn t5 (
    some ((A.top, [A.sl 2 t3, A.sl 2 t2]))) (
    (pBin .add false t1 (vi 1)).bind fun t6 =>
    L193c0_0 t1 t6 t2 t3) :=
  (V_eq rfl Tryz.func193 rfl rfl).trans (by kernel_rfl)
theorem l193c0_0 (x0 x1 : A) (r0 r1 : List (List A)) : L193c0_0 x0 x1 r0 r1 =
  (pBin .lss false x1 (rLen r0)).bind fun t7 =>
  (pBool t7).bind fun t8 =>
  brn t8 (
    (pIx (rLenN r0) x1).bind fun t9 =>
    (pRowN r0 t9 0 2).bind fun t10 =>
    (pCells 2 t10).bind fun t11 =>
    (C194_0 (cGet t11 0) (cGet t11 1) r1).bind fun t12 =>
    (hD t12 0).bind fun t13 =>
    (hR 2 t12 1).bind fun t14 =>
    (pUn .not t13).bind fun t15 =>
    (pBool t15).bind fun t16 =>
    brn t16 (
      (pIx (rLenN r0) x0).bind fun t17 =>
      brn (okA (cGet t11 0)) (
        brn (okA (cGet t11 1)) (
          (rGet r0 t17).bind fun t18 =>
          (pBin .add false x0 (vi 1)).bind fun t19 =>
          (pBin .add false x1 (vi 1)).bind fun t20 =>
          L193c0_0 t19 t20 (rSet r0 t17 (cOver t18 0 [cGet t11 0, cGet t11 1])) t14) (
          none)) (
        none)) (
      (pBin .add false x1 (vi 1)).bind fun t21 =>
      L193c0_0 x0 t21 r0 t14)) (
    (pB (rCnt r0) (rRem r0 0) none).bind fun t22 =>
    (pB 0 t22 (some x0)).bind fun t23 =>
    (pB (rCnt (rOver r0 (0 + t23) (rRep (nSub t22 t23) [sv [], A.sl 2 []]))) (rRem (rOver r0 (0 + t23) (rRep (nSub t22 t23) [sv [], A.sl 2 []])) 0) (some x0)).bind fun t24 =>
    some ((A.top, [A.sl 2 r1, A.sl 2 (List.take (nSub t24 0) (rOver r0 (0 + t23) (rRep (nSub t22 t23) [sv [], A.sl 2 []])))]))) :=
  (H_eq Tryz.func193 rfl).trans (by kernel_rfl)
theorem c194_0 (x0 x1 : A) (r0 : List (List A)) : C194_0 x0 x1 r0 =
  brn (okA x0) (
    brn (okA x1) (
      ((G 171 [A.sl 2 r0, A.fn 195 [A.elt [x0, x1] 0]]).bind (fin true)).bind fun t0 =>
      (pBin .geq false t0 (vi 0)).bind fun t1 =>
      (pBool t1).bind fun t2 =>
      brn t2 (
        (pBin .add false t0 (vi 1)).bind fun t3 =>
        (C196_0 t0 t3 r0).bind fun t4 =>
        (hR 2 t4 0).bind fun t5 =>
        (pBin .geq false t0 (vi 0)).bind fun t6 =>
        some ((A.top, [t6, A.sl 2 t5]))) (
        (pBin .geq false t0 (vi 0)).bind fun t7 =>
        some ((A.top, [t7, A.sl 2 r0])))) (
      none)) (
    none) :=
  (V_eq rfl Tryz.func194 rfl rfl).trans (by kernel_rfl)
theorem c194_1 (x0 : A) (r0 : List (List A)) : C194_1 x0 r0 =
  (pCells 2 x0).bind fun t0 =>
  ((G 171 [A.sl 2 r0, A.fn 195 [A.elt [cGet t0 0, cGet t0 1] 0]]).bind (fin true)).bind fun t1 =>
  (pBin .geq false t1 (vi 0)).bind fun t2 =>
  (pBool t2).bind fun t3 =>
  brn t3 (
    (pBin .add false t1 (vi 1)).bind fun t4 =>
    (C196_0 t1 t4 r0).bind fun t5 =>
    (hR 2 t5 0).bind fun t6 =>
    (pBin .geq false t1 (vi 0)).bind fun t7 =>
    some ((A.top, [t7, A.sl 2 t6]))) (
    (pBin .geq false t1 (vi 0)).bind fun t8 =>
    some ((A.top, [t8, A.sl 2 r0]))) :=
  (V_eq rfl Tryz.func194 rfl rfl).trans (by kernel_rfl)
theorem g195 (a0 a1 : A) : G 195 [a0, a1] =
  (pCells 2 a0).bind fun t0 =>
  (pLoadN 2 a1).bind fun t1 =>
  ((G 69 [t1, A.agg [cGet t0 0, cGet t0 1]]).bind (fin false)).bind fun t2 =>
  some ((t2, [])) :=
  (G_eq rfl Tryz.func195 rfl rfl).trans (by kernel_rfl)
theorem c196_0 (x0 x1 : A) (r0 : List (List A)) : C196_0 x0 x1 r0 =
  (pB 0 (rRem r0 0) (some (rLen r0))).bind fun t0 =>
  (pB 0 t0 (some x1)).bind fun t1 =>
  (pB 0 t1 (some x0)).bind fun t2 =>
  (pBin .eql false x0 x1).bind fun t3 =>
  (pBool t3).bind fun t4 =>
  brn t4 (
    some ((A.top, [A.sl 2 r0]))) (
    (pB (rCnt r0) (rRem r0 0) (some x0)).bind fun t5 =>
    (pB (rCnt r0) (rRem r0 0) none).bind fun t6 =>
    (pB 0 t6 (some x1)).bind fun t7 =>
    brn (pRoom 0 (nSub t5 0) (rWin r0 (0 + t7) (nSub t6 t7)) r0) (
      (pB ((nSub t5 0) + (rCnt (rWin r0 (0 + t7) (nSub t6 t7)))) (rRem (rOver r0 (0 + (nSub t5 0)) (rWin r0 (0 + t7) (nSub t6 t7))) 0) (some (rLen r0))).bind fun t8 =>
      (pB 0 t8 (some (nA ((nSub t5 0) + (rCnt (rWin r0 (0 + t7) (nSub t6 t7))))))).bind fun t9 =>
      some ((A.top, [A.sl 2 (List.take ((nSub t5 0) + (rCnt (rWin r0 (0 + t7) (nSub t6 t7)))) (rOver (rOver r0 (0 + (nSub t5 0)) (rWin r0 (0 + t7) (nSub t6 t7))) (0 + t9) (rRep (nSub t8 t9) [sv [], A.sl 2 []])))]))) (
      none)) :=
  (V_eq rfl Tryz.func196 rfl rfl).trans (by kernel_rfl)
theorem g197 (a0 a1 a2 : A) : G 197 [a0, a1, a2] =
  (pLoadN 3 a0).bind fun t0 =>
  (pLoadP a1).bind fun t1 =>
  (pLoadP a2).bind fun t2 =>
  ((G 198 [t0, t1, t2]).bind (fin false)).bind fun t3 =>
  some ((t3, [])) :=
  (G_eq rfl Tryz.func197 rfl rfl).trans (by kernel_rfl)
theorem g198 (a0 a1 a2 : A) : G 198 [a0, a1, a2] =
  (pCells 3 a0).bind fun t0 =>
  brn (okA a1) (
    ((G 121 [a2, A.fn 205 [A.elt [a1] 0, A.elt [cGet t0 0, cGet t0 1, cGet t0 2] 0]]).bind (fin true)).bind fun t1 =>
    (pUn .not t1).bind fun t2 =>
    some ((t2, []))) (
    none) :=
  (G_eq rfl Tryz.func198 rfl rfl).trans (by kernel_rfl)
theorem g199 (a0 a1 a2 : A) : G 199 [a0, a1, a2] =
  (pLoadN 3 a0).bind fun t0 =>
  (pLoadP a1).bind fun t1 =>
  (pLoadP a2).bind fun t2 =>
  ((G 198 [t0, t1, t2]).bind (fin false)).bind fun t3 =>
  some ((t3, [])) :=
  (G_eq rfl Tryz.func199 rfl rfl).trans (by kernel_rfl)
theorem c200_0 (r0 : List (List A)) : C200_0 r0 =
  L200c0_0 (vi 0) (rLen r0) (vi 0) r0 :=
  (V_eq rfl Tryz.func200 rfl rfl).trans (by kernel_rfl)
theorem l200c0_0 (x0 x1 x2 : A) (r0 : List (List A)) : L200c0_0 x0 x1 x2 r0 =
  (pBin .lss false x2 x1).bind fun t0 =>
  (pBool t0).bind fun t1 =>
  brn t1 (
    (pIx (rLenN r0) x2).bind fun t2 =>
    (pRowP r0 t2 0).bind fun t3 =>
    (pLenL t3).bind fun t4 =>
    (pBin .add false x0 t4).bind fun t5 =>
    (pBin .lss false t5 (vi 0)).bind fun t6 =>
    (pBool t6).bind fun t7 =>
    brn t7 (
      none) (
      (pBin .add false x2 (vi 1)).bind fun t8 =>
      L200c0_0 t5 x1 t8 r0)) (
    (C208_0 x0).bind fun t9 =>
    (hR 2 t9 0).bind fun t10 =>
    L200c0_1 (rLen r0) (vi 0) t10 r0) :=
  (H_eq Tryz.func200 rfl).trans (by kernel_rfl)
theorem l200c0_1 (x0 x1 : A) (r0 r1 : List (List A)) : L200c0_1 x0 x1 r0 r1 =
  (pBin .lss false x1 x0).bind fun t11 =>
  (pBool t11).bind fun t12 =>
  brn t12 (
    (pIx (rLenN r1) x1).bind fun t13 =>
    (pRowP r1 t13 0).bind fun t14 =>
    (pRows 2 t14).bind fun t15 =>
    brn (pFit ((rLenN r0) + (rLenN t15)) 40) (
      (pBin .add false x1 (vi 1)).bind fun t16 =>
      L200c0_1 x0 t16 (rApp r0 t15) r1) (
      none)) (
    some ((A.top, [A.sl 2 r0]))) :=
  (H_eq Tryz.func200 rfl).trans (by kernel_rfl)
theorem g203 (a0 a1 : A) : G 203 [a0, a1] =
  L203_0 a0 a1 (vi 0) :=
  (G_eq rfl Tryz.func203 rfl rfl).trans (by kernel_rfl)
theorem l203_0 (x0 x1 x2 : A) : L203_0 x0 x1 x2 =
  (pLenL x0).bind fun t0 =>
  (pBin .lss false x2 t0).bind fun t1 =>
  (pG t1 true (some x0)).bind fun t2 =>
  (pG t1 true (some x2)).bind fun t3 =>
  (pG t1 true (pIndexAddr 1 t2 t3)).bind fun t4 =>
  (pG t1 true (pLoadP t4)).bind fun t5 =>
  (pG t1 true (some x1)).bind fun t6 =>
  (pG t1 true (pBin .lss false t5 t6)).bind fun t7 =>
  (pPick t1 t7 (vb false)).bind fun t8 =>
  (pBool t8).bind fun t9 =>
  brn t9 (
    (pBin .add false x2 (vi 1)).bind fun t10 =>
    L203_0 x0 x1 t10) (
    (pLenL x0).bind fun t11 =>
    (pBin .lss false x2 t11).bind fun t12 =>
    (pG t12 true (some x0)).bind fun t13 =>
    (pG t12 true (some x2)).bind fun t14 =>
    (pG t12 true (pIndexAddr 1 t13 t14)).bind fun t15 =>
    (pG t12 true (pLoadP t15)).bind fun t16 =>
    (pG t12 true (some x1)).bind fun t17 =>
    (pG t12 true (pBin .eql false t16 t17)).bind fun t18 =>
    (pPick t12 t18 (vb false)).bind fun t19 =>
    (pBool t19).bind fun t20 =>
    brn t20 (
      some ((x0, []))) (
      (pSlice 1 x0 none (some x2)).bind fun t21 =>
      (pRows 1 t21).bind fun t22 =>
      brn (pFit (rLenN t22) 16) (
        brn (okA x1) (
          brn (pFit ((rLenN t22) + (rLenN [[x1]])) 16) (
            (pSlice 1 x0 (some x2) none).bind fun t23 =>
            (pRows 1 t23).bind fun t24 =>
            brn (pFit ((rLenN (rApp t22 [[x1]])) + (rLenN t24)) 16) (
              some ((A.sl 1 (rApp (rApp t22 [[x1]]) t24), []))) (
              none)) (
            none)) (
          none)) (
        none))) :=
  (H_eq Tryz.func203 rfl).trans (by kernel_rfl)
theorem g205 (a0 a1 a2 : A) : G 205 [a0, a1, a2] =
  (pCells 2 a0).bind fun t0 =>
  (pLoadP a1).bind fun t1 =>
  ((G 121 [t1, A.fn 206 [a2, A.elt [cGet t0 0, cGet t0 1] 0]]).bind (fin true)).bind fun t2 =>
  (pUn .not t2).bind fun t3 =>
  some ((t3, [])) :=
  (G_eq rfl Tryz.func205 rfl rfl).trans (by kernel_rfl)
theorem g206 (a0 a1 a2 : A) : G 206 [a0, a1, a2] =
  (pCells 2 a0).bind fun t0 =>
  (pLoadN 3 a1).bind fun t1 =>
  (pLoadN 2 a2).bind fun t2 =>
  ((G 207 [t1, A.agg [cGet t0 0, cGet t0 1], t2]).bind (fin false)).bind fun t3 =>
  some ((t3, [])) :=
  (G_eq rfl Tryz.func206 rfl rfl).trans (by kernel_rfl)
theorem g207 (a0 a1 a2 : A) : G 207 [a0, a1, a2] =
  (pCells 3 a0).bind fun t0 =>
  (pCells 2 a1).bind fun t1 =>
  (pCells 2 a2).bind fun t2 =>
  ((G 222 [A.agg [cGet t1 0, cGet t1 1]]).bind (fin false)).bind fun t3 =>
  (pWant t3 false).bind fun t4 =>
  (pG t3 false ((G 222 [A.agg [cGet t2 0, cGet t2 1]]).bind (fin false))).bind fun t5 =>
  (pPick t3 (vb true) t5).bind fun t6 =>
  (pBool t6).bind fun t7 =>
  brn t7 (
    ((G 222 [A.agg [cGet t1 0, cGet t1 1]]).bind (fin false)).bind fun t8 =>
    (pUn .not t8).bind fun t9 =>
    some ((t9, []))) (
    ((G 96 [A.agg [cGet t0 0, cGet t0 1, cGet t0 2], A.agg [cGet t1 0, cGet t1 1], A.agg [cGet t2 0, cGet t2 1]]).bind (fin false)).bind fun t10 =>
    some ((t10, []))) :=
  (G_eq rfl Tryz.func207 rfl rfl).trans (by kernel_rfl)
theorem c208_0 (x0 : A) : C208_0 x0 =
  (pBin .lss false x0 (vi 0)).bind fun t0 =>
  (pBool t0).bind fun t1 =>
  brn t1 (
    none) (
    (pBin .sub false (vi 0) (vi 0)).bind fun t2 =>
    (pBin .sub false x0 t2).bind fun t3 =>
    (pBin .gtr false t3 (vi 0)).bind fun t4 =>
    (pBool t4).bind fun t5 =>
    brn t5 (
      (pB 0 0 (some (vi 0))).bind fun t6 =>
      (pMake 40 t3 t3).bind fun t7 =>
      brn (pFit t7 40) (
        (pB (rCnt (rRep t7 [sv [], A.sl 2 []])) (rRem (rRep t7 [sv [], A.sl 2 []]) 0) (some (vi 0))).bind fun t8 =>
        some ((A.top, [A.sl 2 (List.take (nSub t8 0) (rRep t7 [sv [], A.sl 2 []]))]))) (
        none)) (
      some ((A.top, [A.sl 2 []])))) :=
  (V_eq rfl Tryz.func208 rfl rfl).trans (by kernel_rfl)
theorem g222 (a0 : A) : G 222 [a0] =
  (pCells 2 a0).bind fun t0 =>
  (pBin .eql false (cGet t0 0) (sv [])).bind fun t1 =>
  some ((t1, [])) :=
  (G_eq rfl Tryz.func222 rfl rfl).trans (by kernel_rfl)
end Go.Proofs.YtjclanocnkankaaGreat
