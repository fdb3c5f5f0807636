/- WRITTEN BY A PROGRAM (gen.py): what functions come to, as equations. -/
import Derived.Test.YtencikloakamfaaGreatK
import Derived.KernelRfl
set_option linter.unusedVariables false
namespace Go.Proofs.YtencikloakamfaaGreat
open Go Go.RowKit Go.Proofs.YtencikloakamfaaGreat.Abs
noncomputable def L20_0 (x0 x1 x2 : A) : Option Out := MM K (.head 20 [1, 1, 1, 0, 1, 0] [V.d x0, V.d x1, V.top, V.top, V.top, V.d x2, V.top, V.top, V.top, V.top, V.top, V.top, V.top, V.top, V.top, V.top, V.top, V.top, V.top, V.top, V.top, V.top, V.top, V.top, V.top, V.top, V.top] [] none)
noncomputable def L22_0 (x0 x1 : A) (r0 : List (List A)) : Option Out := MM K (.head 22 [1, 1, 0, 1, 0] [V.d x0, V.top, V.top, V.row 0, V.d x1, V.top, V.top, V.top, V.top, V.top, V.top, V.top, V.top, V.top, V.top, V.top, V.top, V.top, V.top, V.top, V.top, V.top, V.top] [.row 2 r0] none)
noncomputable def L24_0 (x0 x1 x2 : A) : Option Out := MM K (.head 24 [1, 1, 0, 1, 0] [V.d x0, V.d x1, V.top, V.top, V.top, V.d x2, V.top, V.top, V.top, V.top, V.top, V.top, V.top, V.top, V.top, V.top, V.top, V.top, V.top, V.top, V.top, V.top, V.top, V.top, V.top, V.top, V.top] [] none)
noncomputable def L34_0 (x0 x1 x2 : A) : Option Out := MM K (.head 34 [1, 1, 0, 1, 0] [V.d x0, V.d x1, V.top, V.top, V.top, V.d x2, V.top, V.top, V.top, V.top, V.top, V.top, V.top, V.top, V.top, V.top, V.top, V.top, V.top, V.top, V.top, V.top, V.top, V.top, V.top, V.top] [] none)
noncomputable def L44_0 (x0 x1 x2 : A) : Option Out := MM K (.head 44 [1, 1, 1, 0, 1, 0] [V.d x0, V.d x1, V.top, V.top, V.top, V.d x2, V.top, V.top, V.top, V.top, V.top, V.top, V.top, V.top, V.top, V.top, V.top, V.top, V.top, V.top, V.top, V.top, V.top, V.top, V.top, V.top, V.top, V.top] [] none)
noncomputable def L46_0 (x0 x1 x2 x3 : A) : Option Out := MM K (.head 46 [1, 1, 0, 1, 0] [V.top, V.ptr 0 0, V.top, V.d x0, V.top, V.top, V.top, V.top, V.top, V.top, V.top, V.top, V.top, V.top, V.top, V.top, V.top, V.top, V.top, V.top, V.top, V.top, V.top, V.top, V.top, V.top, V.top, V.top, V.top, V.top, V.top, V.top, V.top, V.top, V.top, V.top, V.top, V.top, V.top, V.top, V.top, V.top, V.top, V.top, V.top, V.top, V.top, V.top, V.top, V.top, V.top, V.top, V.top, V.top, V.top, V.top, V.top, V.top, V.top, V.top, V.top] [.box [V.d x1, V.d x2, V.d x3]] none)
noncomputable def L50_0 (x0 x1 : A) (r0 : List (List A)) : Option Out := MM K (.head 50 [1, 1, 0, 1, 0] [V.d x0, V.top, V.top, V.row 0, V.d x1, V.top, V.top, V.top, V.top, V.top, V.top, V.top, V.top, V.top, V.top, V.top, V.top, V.top, V.top, V.top, V.top, V.top] [.row 1 r0] none)
noncomputable def L51_0 (x0 x1 : A) (r0 : List (List A)) : Option Out := MM K (.head 51 [1, 1, 0, 1, 0] [V.d x0, V.top, V.top, V.row 0, V.d x1, V.top, V.top, V.top, V.top, V.top, V.top, V.top, V.top, V.top, V.top, V.top, V.top, V.top, V.top, V.top, V.top, V.top] [.row 1 r0] none)
noncomputable def L53_0 (x0 x1 x2 x3 x4 x5 : A) : Option Out := MM K (.head 53 [1, 1, 0, 1, 0] [V.top, V.ptr 0 0, V.top, V.top, V.top, V.top, V.top, V.top, V.top, V.top, V.top, V.top, V.top, V.top, V.top, V.top, V.top, V.top, V.top, V.top, V.top, V.top, V.top, V.top, V.top, V.top, V.d x0, V.d x1, V.d x2, V.top, V.top, V.top, V.top, V.top, V.top, V.top, V.top, V.top, V.top, V.top, V.top, V.top, V.top, V.top, V.top, V.top, V.top, V.top, V.top, V.top, V.top, V.top, V.top, V.top, V.top, V.top] [.box [V.d x3, V.d x4, V.d x5]] none)
noncomputable def L57_0 (x0 x1 x2 : A) : Option Out := MM K (.head 57 [1, 1, 0, 1, 0] [V.d x0, V.d x1, V.top, V.top, V.top, V.d x2, V.top, V.top, V.top, V.top, V.top, V.top, V.top, V.top, V.top, V.top, V.top, V.top, V.top, V.top, V.top, V.top, V.top, V.top, V.top, V.top] [] none)
noncomputable def L60_0 (x0 x1 x2 x3 x4 : A) : Option Out := MM K (.head 60 [1, 0, 1, 0] [V.top, V.d x0, V.ptr 0 0, V.top, V.top, V.d x1, V.top, V.top, V.top, V.top, V.top, V.top, V.top, V.top, V.top, V.top, V.top, V.top, V.top, V.top, V.top, V.top, V.top, V.top, V.top, V.top] [.box [V.d x2, V.d x3, V.d x4]] none)
noncomputable def L61_0 (x0 x1 x2 x3 x4 x5 x6 x7 : A) : Option Out := MM K (.head 61 [1, 1, 1, 0, 1, 0] [V.top, V.top, V.top, V.ptr 0 0, V.top, V.top, V.top, V.d x0, V.d x1, V.d x2, V.d x3, V.d x4, V.top, V.top, V.top, V.top, V.top, V.top, V.top, V.top, V.top, V.top, V.top, V.top, V.top, V.top, V.top, V.top, V.top, V.top, V.top, V.top, V.top, V.top, V.top, V.top, V.top, V.top, V.top, V.top, V.top, V.top, V.top, V.top, V.top, V.top, V.top, V.top, V.top, V.top, V.top, V.top, V.top, V.top, V.top, V.top, V.top, V.top, V.top, V.top, V.top, V.top, V.top, V.top, V.top, V.top, V.top, V.top, V.top, V.top, V.top, V.top, V.top, V.top, V.top, V.top, V.top, V.top, V.top, V.top, V.top, V.top, V.top, V.top, V.top, V.top, V.top, V.top, V.top, V.top] [.box [V.d x5, V.d x6, V.d x7]] none)
noncomputable def L61_1 (x0 x1 x2 x3 x4 x5 x6 x7 x8 x9 : A) : Option Out := MM K (.head 61 [1, 1, 1, 0, 1, 0, 0, 1, 0, 0, 1, 0, 1, 0] [V.top, V.top, V.top, V.ptr 0 0, V.top, V.top, V.top, V.d x0, V.d x1, V.d x2, V.d x3, V.d x4, V.d x5, V.d x6, V.top, V.top, V.top, V.top, V.top, V.top, V.top, V.top, V.top, V.top, V.top, V.top, V.top, V.top, V.top, V.top, V.top, V.top, V.top, V.top, V.top, V.top, V.top, V.top, V.top, V.top, V.top, V.top, V.top, V.top, V.top, V.top, V.top, V.top, V.top, V.top, V.top, V.top, V.top, V.top, V.top, V.top, V.top, V.top, V.top, V.top, V.top, V.top, V.top, V.top, V.top, V.top, V.top, V.top, V.top, V.top, V.top, V.top, V.top, V.top, V.top, V.top, V.top, V.top, V.top, V.top, V.top, V.top, V.top, V.top, V.top, V.top, V.top, V.top, V.top, V.top] [.box [V.d x7, V.d x8, V.d x9]] none)
noncomputable def L61_2 (x0 x1 x2 x3 x4 x5 x6 x7 : A) : Option Out := MM K (.head 61 [1, 1, 1, 1, 0, 1, 0] [V.top, V.top, V.top, V.ptr 0 0, V.top, V.top, V.top, V.d x0, V.d x1, V.d x2, V.d x3, V.top, V.top, V.top, V.d x4, V.top, V.top, V.top, V.top, V.top, V.top, V.top, V.top, V.top, V.top, V.top, V.top, V.top, V.top, V.top, V.top, V.top, V.top, V.top, V.top, V.top, V.top, V.top, V.top, V.top, V.top, V.top, V.top, V.top, V.top, V.top, V.top, V.top, V.top, V.top, V.top, V.top, V.top, V.top, V.top, V.top, V.top, V.top, V.top, V.top, V.top, V.top, V.top, V.top, V.top, V.top, V.top, V.top, V.top, V.top, V.top, V.top, V.top, V.top, V.top, V.top, V.top, V.top, V.top, V.top, V.top, V.top, V.top, V.top, V.top, V.top, V.top, V.top, V.top, V.top] [.box [V.d x5, V.d x6, V.d x7]] none)
noncomputable def L61_3 (x0 x1 x2 x3 x4 x5 x6 x7 x8 x9 : A) : Option Out := MM K (.head 61 [1, 1, 1, 1, 0, 1, 0, 0, 1, 0, 0, 1, 0, 1, 0] [V.top, V.top, V.top, V.ptr 0 0, V.top, V.top, V.top, V.d x0, V.d x1, V.d x2, V.d x3, V.top, V.top, V.top, V.d x4, V.d x5, V.d x6, V.top, V.top, V.top, V.top, V.top, V.top, V.top, V.top, V.top, V.top, V.top, V.top, V.top, V.top, V.top, V.top, V.top, V.top, V.top, V.top, V.top, V.top, V.top, V.top, V.top, V.top, V.top, V.top, V.top, V.top, V.top, V.top, V.top, V.top, V.top, V.top, V.top, V.top, V.top, V.top, V.top, V.top, V.top, V.top, V.top, V.top, V.top, V.top, V.top, V.top, V.top, V.top, V.top, V.top, V.top, V.top, V.top, V.top, V.top, V.top, V.top, V.top, V.top, V.top, V.top, V.top, V.top, V.top, V.top, V.top, V.top, V.top, V.top] [.box [V.d x7, V.d x8, V.d x9]] none)
noncomputable def L64_0 (x0 x1 x2 x3 x4 x5 x6 x7 : A) (r0 : List (List A)) : Option Out := MM K (.head 64 [1, 1, 1, 1, 1, 0, 1, 0] [V.top, V.top, V.ptr 0 0, V.ptr 1 0, V.top, V.top, V.d x0, V.row 2, V.d x1, V.top, V.top, V.top, V.top, V.top, V.top, V.top, V.top, V.top, V.top, V.top, V.top, V.top, V.top, V.top, V.top, V.top, V.top, V.top, V.top, V.top, V.top, V.top, V.top, V.top, V.top, V.top, V.top, V.top, V.top, V.top, V.top, V.top, V.top, V.top, V.top, V.top, V.top, V.top, V.top, V.top, V.top, V.top, V.top, V.top, V.top, V.top, V.top, V.top, V.top, V.top, V.top, V.top, V.top, V.top] [.box [V.d x2, V.d x3, V.d x4], .box [V.d x5, V.d x6, V.d x7], .row 2 r0] none)
noncomputable def L64_1 (x0 x1 x2 x3 x4 x5 x6 : A) (r0 r1 : List (List A)) : Option Out := MM K (.head 64 [1, 1, 1, 1, 1, 0, 1, 0] [V.top, V.top, V.ptr 0 0, V.ptr 1 0, V.top, V.top, V.row 2, V.row 3, V.d x0, V.top, V.top, V.top, V.top, V.top, V.top, V.top, V.top, V.top, V.top, V.top, V.top, V.top, V.top, V.top, V.top, V.top, V.top, V.top, V.top, V.top, V.top, V.top, V.top, V.top, V.top, V.top, V.top, V.top, V.top, V.top, V.top, V.top, V.top, V.top, V.top, V.top, V.top, V.top, V.top, V.top, V.top, V.top, V.top, V.top, V.top, V.top, V.top, V.top, V.top, V.top, V.top, V.top, V.top, V.top] [.box [V.d x1, V.d x2, V.d x3], .box [V.d x4, V.d x5, V.d x6], .row 2 r0, .row 2 r1] none)
noncomputable def L75_0 (x0 x1 x2 x3 x4 : A) : Option Out := MM K (.head 75 [1, 1, 0, 1, 0] [V.top, V.top, V.ptr 0 0, V.ptr 1 0, V.top, V.d x0, V.top, V.top, V.top, V.top, V.top, V.top, V.top, V.top, V.top, V.top, V.top, V.top, V.top, V.top, V.top, V.top, V.top, V.top, V.top, V.top, V.top, V.top, V.top, V.top, V.top, V.top, V.top, V.top, V.top, V.top, V.top, V.top, V.top] [.box [V.d x1, V.d x2], .box [V.d x3, V.d x4]] none)
noncomputable def L85_0 (x0 x1 : A) : Option Out := MM K (.head 85 [1, 1, 1, 0, 1, 0] [V.d x0, V.top, V.top, V.d x1, V.top, V.top, V.top, V.top, V.top, V.top, V.top, V.top, V.top, V.top, V.top, V.top, V.top, V.top, V.top, V.top, V.top, V.top, V.top, V.top, V.top, V.top, V.top, V.top, V.top, V.top, V.top, V.top, V.top, V.top, V.top, V.top, V.top, V.top, V.top, V.top, V.top, V.top, V.top, V.top, V.top] [] none)
noncomputable def L86_0 (x0 x1 x2 : A) : Option Out := MM K (.head 86 [1, 0, 1, 0] [V.d x0, V.d x1, V.top, V.top, V.top, V.d x2, V.top, V.top, V.top, V.top, V.top, V.top, V.top, V.top, V.top, V.top, V.top, V.top] [] none)
noncomputable def L87_0 (x0 x1 x2 x3 x4 x5 : A) : Option Out := MM K (.head 87 [1, 1, 0, 1, 0] [V.top, V.top, V.ptr 0 0, V.ptr 1 0, V.top, V.d x0, V.top, V.top, V.top, V.top, V.top, V.top, V.top, V.top, V.top, V.top, V.top, V.top, V.top, V.top, V.top, V.top, V.top, V.top, V.top, V.top, V.top, V.top, V.top, V.top, V.top, V.top] [.box [V.d x1, V.d x2, V.d x3], .box [V.d x4, V.d x5]] none)
noncomputable def L88_0 (x0 x1 x2 x3 x4 x5 : A) : Option Out := MM K (.head 88 [1, 1, 0, 1, 0] [V.top, V.top, V.ptr 0 0, V.ptr 1 0, V.top, V.d x0, V.d x1, V.top, V.top, V.top, V.top, V.top, V.top, V.top, V.top, V.top, V.top, V.top, V.top, V.top, V.top, V.top, V.top, V.top, V.top, V.top, V.top, V.top] [.box [V.d x2, V.d x3], .box [V.d x4, V.d x5]] none)
noncomputable def L89_0 (x0 x1 x2 x3 x4 x5 x6 : A) : Option Out := MM K (.head 89 [1, 1, 1, 0, 1, 0] [V.top, V.top, V.ptr 0 0, V.ptr 1 0, V.top, V.d x0, V.d x1, V.top, V.top, V.top, V.top, V.top, V.top, V.top, V.top, V.top, V.top, V.top, V.top, V.top, V.top, V.top, V.top, V.top, V.top, V.top, V.top, V.top, V.top, V.top, V.top, V.top, V.top, V.top, V.top, V.top, V.top, V.top] [.box [V.d x2, V.d x3, V.d x4], .box [V.d x5, V.d x6]] none)
noncomputable def L90_0 (x0 x1 : A) : Option Out := MM K (.head 90 [1, 1, 0, 1, 0] [V.d x0, V.top, V.top, V.d x1, V.top, V.top, V.top, V.top, V.top, V.top, V.top, V.top, V.top, V.top, V.top, V.top, V.top, V.top, V.top, V.top, V.top, V.top, V.top, V.top, V.top, V.top, V.top, V.top, V.top] [] none)
noncomputable def L92_0 (x0 x1 x2 x3 x4 : A) : Option Out := MM K (.head 92 [1, 0, 1, 0] [V.top, V.top, V.ptr 0 0, V.ptr 1 0, V.top, V.d x0, V.top, V.top, V.top, V.top, V.top, V.top, V.top, V.top, V.top, V.top, V.top, V.top, V.top, V.top, V.top, V.top, V.top, V.top, V.top, V.top] [.box [V.d x1, V.d x2], .box [V.d x3, V.d x4]] none)
noncomputable def L94_0 (x0 x1 x2 : A) : Option Out := MM K (.head 94 [1, 0, 1, 0] [V.d x0, V.top, V.top, V.top, V.top, V.d x1, V.d x2, V.top, V.top, V.top, V.top, V.top, V.top, V.top, V.top, V.top, V.top, V.top, V.top, V.top, V.top, V.top, V.top, V.top, V.top, V.top, V.top, V.top, V.top, V.top, V.top, V.top, V.top, V.top, V.top, V.top, V.top, V.top, V.top, V.top, V.top, V.top, V.top, V.top, V.top, V.top, V.top, V.top] [] none)
noncomputable def L100_0 (x0 x1 x2 x3 x4 x5 x6 x7 x8 x9 : A) : Option Out := MM K (.head 100 [1, 0, 1, 0] [V.top, V.top, V.top, V.ptr 0 0, V.ptr 1 0, V.ptr 2 0, V.top, V.top, V.top, V.top, V.top, V.top, V.top, V.top, V.top, V.d x0, V.d x1, V.d x2, V.top, V.top, V.top, V.top, V.top, V.top, V.top, V.top, V.top, V.top, V.top, V.top, V.top, V.top, V.top, V.top, V.top, V.top, V.top, V.top, V.top, V.top, V.top, V.top, V.top, V.top, V.top, V.top, V.top, V.top, V.top, V.top, V.top, V.top, V.top, V.top, V.top, V.top, V.top, V.top, V.top, V.top, V.top, V.top, V.top, V.top, V.top, V.top, V.top] [.box [V.d x3, V.d x4, V.d x5], .box [V.d x6, V.d x7], .box [V.d x8, V.d x9]] none)
noncomputable def L103_0 (x0 x1 x2 : A) (r0 r1 : List (List A)) : Option Out := MM K (.head 103 [1, 1, 1, 0, 1, 0] [V.d x0, V.d x1, V.top, V.top, V.top, V.row 0, V.row 1, V.d x2, V.top, V.top, V.top, V.top, V.top, V.top, V.top, V.top, V.top, V.top, V.top, V.top, V.top, V.top, V.top, V.top, V.top, V.top, V.top, V.top, V.top, V.top, V.top, V.top, V.top, V.top, V.top, V.top, V.top, V.top, V.top, V.top, V.top, V.top, V.top, V.top, V.top, V.top, V.top, V.top, V.top, V.top, V.top, V.top, V.top, V.top, V.top, V.top, V.top, V.top, V.top, V.top] [.row 1 r0, .row 2 r1] none)
noncomputable def L103_1 (x0 x1 x2 x3 x4 : A) (r0 r1 : List (List A)) : Option Out := MM K (.head 103 [1, 1, 1, 0, 1, 0, 0, 1, 0, 0, 1, 0, 1, 0] [V.d x0, V.d x1, V.top, V.top, V.top, V.row 0, V.row 1, V.d x2, V.d x3, V.d x4, V.top, V.top, V.top, V.top, V.top, V.top, V.top, V.top, V.top, V.top, V.top, V.top, V.top, V.top, V.top, V.top, V.top, V.top, V.top, V.top, V.top, V.top, V.top, V.top, V.top, V.top, V.top, V.top, V.top, V.top, V.top, V.top, V.top, V.top, V.top, V.top, V.top, V.top, V.top, V.top, V.top, V.top, V.top, V.top, V.top, V.top, V.top, V.top, V.top, V.top] [.row 1 r0, .row 2 r1] none)
noncomputable def C109_0 (x0 : A) : Option Out := MM K (.callv 109 [V.d x0] [])
noncomputable def C110_0 (r0 r1 : List (List A)) : Option Out := MM K (.callv 110 [V.row 0, V.fn 111 [V.ptr 1 0]] [.row 2 r0, .box [V.row 2], .row 2 r1])
noncomputable def L110c0_0 (x0 x1 : A) (r0 r1 : List (List A)) : Option Out := MM K (.head 110 [1, 1, 1, 0, 1, 0] [V.row 0, V.fn 111 [V.ptr 1 0], V.top, V.top, V.top, V.d x0, V.d x1, V.top, V.top, V.top, V.top, V.top, V.top, V.top, V.top, V.top, V.top, V.top, V.top, V.top, V.top, V.top, V.top, V.top, V.top, V.top, V.top, V.top, V.top, V.top, V.top, V.top, V.top, V.top, V.top, V.top, V.top, V.top, V.top, V.top, V.top, V.top] [.row 2 r0, .box [V.row 3], .gone, .row 2 r1] (some [0, 1, 2]))
noncomputable def C111_0 (x0 x1 : A) (r0 : List (List A)) : Option Out := MM K (.callv 111 [V.agg [V.d x0, V.d x1], V.ptr 0 0] [.box [V.row 1], .row 2 r0])
noncomputable def C111_1 (x0 : A) (r0 : List (List A)) : Option Out := MM K (.callv 111 [V.d x0, V.ptr 0 0] [.box [V.row 1], .row 2 r0])
noncomputable def L112_0 (x0 x1 x2 x3 : A) : Option Out := MM K (.head 112 [1, 0, 1, 0] [V.d x0, V.d x1, V.top, V.top, V.top, V.top, V.top, V.d x2, V.d x3, V.top, V.top, V.top, V.top, V.top, V.top, V.top, V.top, V.top, V.top] [] none)
noncomputable def C112_0 (r0 r1 : List (List A)) : Option Out := MM K (.callv 112 [V.row 0, V.fn 111 [V.ptr 1 0]] [.row 2 r0, .box [V.row 2], .row 2 r1])
noncomputable def L112c0_0 (x0 x1 : A) (r0 r1 : List (List A)) : Option Out := MM K (.head 112 [1, 0, 1, 0] [V.row 0, V.fn 111 [V.ptr 1 0], V.top, V.top, V.top, V.top, V.top, V.d x0, V.d x1, V.top, V.top, V.top, V.top, V.top, V.top, V.top, V.top, V.top, V.top] [.row 2 r0, .box [V.row 2], .row 2 r1] (some [0, 1, 2]))
noncomputable def L112c0_1 (x0 x1 : A) (r0 r1 : List (List A)) : Option Out := MM K (.head 112 [1, 0, 1, 0] [V.row 0, V.fn 111 [V.ptr 1 0], V.top, V.top, V.top, V.top, V.top, V.d x0, V.d x1, V.top, V.top, V.top, V.top, V.top, V.top, V.top, V.top, V.top, V.top] [.row 2 r0, .box [V.row 3], .gone, .row 2 r1] (some [0, 1, 2]))
noncomputable def C114_0 (x0 x1 : A) (r0 : List (List A)) : Option Out := MM K (.callv 114 [V.row 0, V.d x0, V.d x1] [.row 2 r0])
noncomputable def L123_0 (x0 x1 x2 : A) : Option Out := MM K (.head 123 [1, 1, 1, 0, 1, 0] [V.top, V.ptr 0 0, V.top, V.d x0, V.top, V.top, V.top, V.top, V.top, V.top, V.top, V.top, V.top, V.top, V.top, V.top, V.top, V.top, V.top, V.top, V.top, V.top, V.top, V.top, V.top, V.top, V.top, V.top, V.top, V.top, V.top, V.top, V.top, V.top, V.top] [.box [V.d x1, V.d x2]] none)
noncomputable def L128_0 (x0 x1 x2 x3 x4 : A) : Option Out := MM K (.head 128 [1, 1, 0, 1, 0] [V.top, V.d x0, V.d x1, V.top, V.top, V.top, V.top, V.top, V.top, V.top, V.top, V.top, V.top, V.top, V.top, V.d x2, V.d x3, V.d x4, V.top, V.top, V.top, V.top, V.top, V.top, V.top, V.top, V.top, V.top, V.top, V.top, V.top, V.top] [] none)
noncomputable def L133_0 (x0 x1 x2 x3 x4 : A) : Option Out := MM K (.head 133 [1, 0, 1, 0] [V.top, V.d x0, V.ptr 0 0, V.top, V.top, V.d x1, V.top, V.top, V.top, V.top, V.top, V.top, V.top, V.top, V.top, V.top, V.top, V.top, V.top, V.top, V.top] [.box [V.d x2, V.d x3, V.d x4]] none)
noncomputable def L135_0 (x0 x1 x2 x3 x4 : A) : Option Out := MM K (.head 135 [1, 1, 1, 0, 1, 0] [V.top, V.d x0, V.ptr 0 0, V.top, V.top, V.d x1, V.d x2, V.top, V.top, V.top, V.top, V.top, V.top, V.top, V.top, V.top, V.top, V.top, V.top, V.top, V.top, V.top, V.top, V.top, V.top, V.top, V.top, V.top] [.box [V.d x3, V.d x4]] none)
noncomputable def L139_0 (x0 x1 x2 x3 : A) : Option Out := MM K (.head 139 [1, 0, 1, 0] [V.d x0, V.d x1, V.top, V.top, V.top, V.top, V.top, V.d x2, V.d x3, V.top, V.top, V.top, V.top, V.top, V.top, V.top, V.top, V.top, V.top] [] none)
noncomputable def L143_0 (x0 x1 x2 x3 x4 : A) : Option Out := MM K (.head 143 [1, 1, 1, 0, 1, 0] [V.top, V.d x0, V.top, V.top, V.top, V.d x1, V.top, V.top, V.top, V.top, V.top, V.top, V.top, V.d x2, V.d x3, V.d x4, V.top, V.top, V.top, V.top, V.top, V.top, V.top, V.top, V.top, V.top] [] none)
noncomputable def L144_0 (x0 x1 x2 x3 x4 x5 x6 : A) : Option Out := MM K (.head 144 [1, 1, 1, 0, 1, 0] [V.top, V.top, V.ptr 0 0, V.top, V.top, V.d x0, V.top, V.top, V.top, V.top, V.top, V.top, V.top, V.top, V.top, V.top, V.top, V.top, V.top, V.top, V.top, V.top, V.d x1, V.d x2, V.d x3, V.top, V.top, V.top, V.top, V.top, V.top, V.top, V.top, V.top, V.top] [.box [V.d x4, V.d x5, V.d x6]] none)
noncomputable def L146_0 (x0 x1 x2 x3 x4 x5 x6 : A) (r0 r1 : List (List A)) : Option Out := MM K (.head 146 [1, 1, 0, 1, 0] [V.top, V.top, V.top, V.ptr 0 0, V.ptr 1 0, V.ptr 2 0, V.top, V.top, V.top, V.top, V.top, V.top, V.top, V.top, V.top, V.top, V.top, V.top, V.top, V.top, V.top, V.top, V.top, V.top, V.top, V.top, V.d x0, V.d x1, V.d x2, V.top, V.top, V.top, V.top, V.top, V.top, V.top, V.top, V.top, V.top, V.top, V.top, V.top, V.top, V.top, V.top, V.top, V.top, V.top, V.top, V.top] [.box [V.d x3, V.d x4], .box [V.d x5, V.row 3], .box [V.d x6, V.row 4], .row 2 r0, .row 2 r1] none)
noncomputable def C150_0 (r0 : List (List A)) : Option Out := MM K (.callv 150 [V.row 0] [.row 1 r0])
noncomputable def L150c0_0 (x0 x1 x2 : A) (r0 : List (List A)) : Option Out := MM K (.head 150 [1, 1, 0, 1, 0] [V.row 0, V.top, V.top, V.d x0, V.top, V.top, V.top, V.top, V.top, V.row 0, V.d x1, V.d x2, V.top, V.top, V.top, V.top, V.top, V.top, V.top, V.top, V.top, V.top, V.top, V.top, V.top, V.top, V.top, V.top, V.top, V.top, V.top, V.top, V.top, V.top, V.top, V.top] [.row 1 r0] (some [0]))
noncomputable def L150c0_1 (x0 x1 : A) (r0 r1 : List (List A)) : Option Out := MM K (.head 150 [1, 1, 1, 1, 0, 1, 0] [V.top, V.top, V.top, V.top, V.top, V.top, V.row 0, V.top, V.top, V.top, V.top, V.top, V.top, V.top, V.top, V.top, V.top, V.top, V.top, V.top, V.top, V.top, V.top, V.top, V.top, V.row 1, V.d x0, V.d x1, V.top, V.top, V.top, V.top, V.top, V.top, V.top, V.top] [.row 2 r0, .row 1 r1] (some [1]))
noncomputable def L152_0 (x0 x1 x2 x3 x4 : A) : Option Out := MM K (.head 152 [1, 1, 0, 1, 0] [V.top, V.d x0, V.ptr 0 0, V.top, V.top, V.d x1, V.d x2, V.top, V.top, V.top, V.top, V.top, V.top, V.top, V.top, V.top, V.top, V.top, V.top, V.top, V.top, V.top, V.top, V.top, V.top, V.top, V.top, V.top, V.top, V.top, V.top] [.box [V.d x3, V.d x4]] none)
noncomputable def L153_0 (x0 x1 x2 x3 : A) : Option Out := MM K (.head 153 [1, 1, 0, 1, 0] [V.top, V.ptr 0 0, V.top, V.d x0, V.d x1, V.top, V.top, V.top, V.top, V.top, V.top, V.top, V.top, V.top, V.top, V.top, V.top, V.top, V.top, V.top, V.top, V.top] [.box [V.d x2, V.d x3]] none)
noncomputable def L161_0 (x0 x1 x2 x3 : A) : Option Out := MM K (.head 161 [1, 1, 0, 1, 0] [V.top, V.top, V.top, V.d x0, V.top, V.top, V.top, V.d x1, V.d x2, V.d x3, V.top, V.top, V.top, V.top, V.top, V.top, V.top, V.top, V.top, V.top, V.top, V.top] [] none)
noncomputable def L162_0 (x0 x1 x2 x3 : A) : Option Out := MM K (.head 162 [1, 1, 0, 1, 0] [V.top, V.top, V.top, V.d x0, V.top, V.top, V.top, V.d x1, V.d x2, V.d x3, V.top, V.top, V.top, V.top, V.top, V.top, V.top, V.top, V.top, V.top] [] none)
noncomputable def L163_0 (x0 x1 x2 : A) : Option Out := MM K (.head 163 [1, 0, 1, 0] [V.d x0, V.top, V.top, V.top, V.top, V.d x1, V.d x2, V.top, V.top, V.top, V.top, V.top, V.top, V.top, V.top, V.top, V.top, V.top, V.top, V.top, V.top, V.top, V.top, V.top, V.top, V.top, V.top, V.top, V.top, V.top, V.top, V.top, V.top, V.top, V.top, V.top, V.top, V.top, V.top, V.top] [] none)
noncomputable def L168_0 (x0 x1 x2 x3 : A) : Option Out := MM K (.head 168 [1, 1, 0, 1, 0] [V.d x0, V.top, V.top, V.ptr 0 0, V.top, V.d x1, V.top, V.top, V.top, V.top, V.top, V.top, V.top, V.top, V.top, V.top, V.top, V.top, V.top, V.top, V.top, V.top, V.top, V.top, V.top, V.top, V.top, V.top] [.box [V.d x2, V.d x3]] none)
noncomputable def C170_0 (x0 x1 : A) (r0 : List (List A)) : Option Out := MM K (.callv 170 [V.row 0, V.agg [V.d x0, V.d x1]] [.row 1 r0])
noncomputable def L170c0_0 (x0 x1 x2 : A) (r0 : List (List A)) : Option Out := MM K (.head 170 [1, 1, 0, 1, 0] [V.row 0, V.top, V.top, V.top, V.top, V.top, V.top, V.top, V.top, V.top, V.top, V.top, V.top, V.top, V.top, V.top, V.top, V.top, V.top, V.top, V.top, V.top, V.top, V.top, V.top, V.top, V.top, V.d x0, V.d x1, V.d x2, V.top, V.top, V.top, V.top, V.top, V.top, V.top, V.top] [.row 1 r0] (some [0]))
noncomputable def L170c0_1 (x0 x1 x2 : A) (r0 : List (List A)) : Option Out := MM K (.head 170 [1, 1, 0, 1, 0] [V.row 0, V.top, V.top, V.top, V.top, V.top, V.top, V.top, V.top, V.top, V.top, V.top, V.top, V.top, V.top, V.top, V.top, V.top, V.top, V.top, V.top, V.top, V.top, V.top, V.top, V.top, V.top, V.d x0, V.d x1, V.d x2, V.top, V.top, V.top, V.top, V.top, V.top, V.top, V.top] [.row 1 r0, .gone] (some [1]))
noncomputable def C171_0 (r0 : List (List A)) : Option Out := MM K (.callv 171 [V.row 0] [.row 1 r0])
noncomputable def C173_0 (x0 : A) : Option Out := MM K (.callv 173 [V.nil 2, V.d x0] [])
noncomputable def L182_0 (x0 x1 x2 : A) : Option Out := MM K (.head 182 [1, 1, 0, 0] [V.d x0, V.d x1, V.top, V.top, V.top, V.d x2, V.top, V.top, V.top, V.top, V.top, V.top, V.top, V.top, V.top, V.top, V.top, V.top, V.top, V.top, V.top, V.top, V.top, V.top, V.top, V.top, V.top, V.top, V.top, V.top, V.top, V.top, V.top, V.top, V.top, V.top, V.top, V.top, V.top, V.top, V.top, V.top, V.top, V.top, V.top] [] none)
theorem g4 (a0 a1 a2 : A) : G 4 [a0, a1, a2] =
  (pCells 3 a0).bind fun t0 =>
  ((G 9 [A.agg [cGet t0 0, cGet t0 1, cGet t0 2], vi 1048576]).bind (fin false)).bind fun t1 =>
  (pBin .lss false t1 (vi 0)).bind fun t2 =>
  (pBool t2).bind fun t3 =>
  brn t3 (
    some ((vb true, []))) (
    ((G 20 [a1, t1]).bind (fin false)).bind fun t4 =>
    (pBin .lss false t4 (vi 0)).bind fun t5 =>
    (pBool t5).bind fun t6 =>
    brn t6 (
      some ((vb true, []))) (
      ((G 20 [a2, t4]).bind (fin false)).bind fun t7 =>
      (pBin .lss false t7 (vi 0)).bind fun t8 =>
      (pBool t8).bind fun t9 =>
      brn t9 (
        some ((vb true, []))) (
        ((G 12 [A.agg [cGet t0 0, cGet t0 1, cGet t0 2]]).bind (fin false)).bind fun t10 =>
        ((G 22 [a1]).bind (fin false)).bind fun t11 =>
        ((G 22 [a2]).bind (fin false)).bind fun t12 =>
        ((G 21 [t10, t11, t12]).bind (fin false)).bind fun t13 =>
        (pTup t13 0).bind fun t14 =>
        (pTup t13 1).bind fun t15 =>
        ((G 12 [A.agg [cGet t0 0, cGet t0 1, cGet t0 2]]).bind (fin false)).bind fun t16 =>
        (pCells 3 t16).bind fun t17 =>
        ((G 22 [a1]).bind (fin false)).bind fun t18 =>
        ((G 22 [a2]).bind (fin false)).bind fun t19 =>
        ((G 23 [A.agg [cGet t17 0, cGet t17 1, cGet t17 2], t18, t19]).bind (fin false)).bind fun t20 =>
        (pTup t20 0).bind fun t21 =>
        (pTup t20 1).bind fun t22 =>
        (pBin .neq false t21 t14).bind fun t23 =>
        (pG t23 false (some t22)).bind fun t24 =>
        (pG t23 false (some t15)).bind fun t25 =>
        (pG t23 false (pBin .neq true t24 t25)).bind fun t26 =>
        (pPick t23 (vb true) t26).bind fun t27 =>
        (pBool t27).bind fun t28 =>
        brn t28 (
          some ((vb false, []))) (
          ((G 12 [A.agg [cGet t0 0, cGet t0 1, cGet t0 2]]).bind (fin false)).bind fun t29 =>
          ((G 16 [A.agg [cGet t17 0, cGet t17 1, cGet t17 2], t29]).bind (fin false)).bind fun t30 =>
          (pUn .not t30).bind fun t31 =>
          (pBool t31).bind fun t32 =>
          brn t32 (
            some ((vb false, []))) (
            ((G 22 [a1]).bind (fin false)).bind fun t33 =>
            ((G 24 [t18, t33]).bind (fin false)).bind fun t34 =>
            (pUn .not t34).bind fun t35 =>
            (pBool t35).bind fun t36 =>
            brn t36 (
              some ((vb false, []))) (
              ((G 22 [a2]).bind (fin false)).bind fun t37 =>
              ((G 24 [t19, t37]).bind (fin false)).bind fun t38 =>
              (pUn .not t38).bind fun t39 =>
              (pBool t39).bind fun t40 =>
              brn t40 (
                some ((vb false, []))) (
                some ((vb true, []))))))))) :=
  (G_eq rfl Tryz.func4 rfl rfl).trans (by kernel_rfl)
theorem g5 (a0 a1 a2 : A) : G 5 [a0, a1, a2] =
  (pCells 3 a0).bind fun t0 =>
  (pCells 3 a1).bind fun t1 =>
  (pCells 3 a2).bind fun t2 =>
  ((G 9 [A.agg [cGet t0 0, cGet t0 1, cGet t0 2], vi 1048576]).bind (fin false)).bind fun t3 =>
  (pBin .lss false t3 (vi 0)).bind fun t4 =>
  (pBool t4).bind fun t5 =>
  brn t5 (
    some ((vb true, []))) (
    ((G 25 [A.agg [cGet t1 0, cGet t1 1, cGet t1 2], t3]).bind (fin false)).bind fun t6 =>
    (pBin .lss false t6 (vi 0)).bind fun t7 =>
    (pBool t7).bind fun t8 =>
    brn t8 (
      some ((vb true, []))) (
      ((G 25 [A.agg [cGet t2 0, cGet t2 1, cGet t2 2], t6]).bind (fin false)).bind fun t9 =>
      (pBin .lss false t9 (vi 0)).bind fun t10 =>
      (pBool t10).bind fun t11 =>
      brn t11 (
        some ((vb true, []))) (
        ((G 12 [A.agg [cGet t0 0, cGet t0 1, cGet t0 2]]).bind (fin false)).bind fun t12 =>
        ((G 27 [A.agg [cGet t1 0, cGet t1 1, cGet t1 2]]).bind (fin false)).bind fun t13 =>
        ((G 27 [A.agg [cGet t2 0, cGet t2 1, cGet t2 2]]).bind (fin false)).bind fun t14 =>
        ((G 26 [t12, t13, t14]).bind (fin false)).bind fun t15 =>
        (pTup t15 0).bind fun t16 =>
        (pTup t15 1).bind fun t17 =>
        ((G 12 [A.agg [cGet t0 0, cGet t0 1, cGet t0 2]]).bind (fin false)).bind fun t18 =>
        (pCells 3 t18).bind fun t19 =>
        ((G 27 [A.agg [cGet t1 0, cGet t1 1, cGet t1 2]]).bind (fin false)).bind fun t20 =>
        (pCells 3 t20).bind fun t21 =>
        ((G 27 [A.agg [cGet t2 0, cGet t2 1, cGet t2 2]]).bind (fin false)).bind fun t22 =>
        (pCells 3 t22).bind fun t23 =>
        ((G 28 [A.agg [cGet t19 0, cGet t19 1, cGet t19 2], A.agg [cGet t21 0, cGet t21 1, cGet t21 2], A.agg [cGet t23 0, cGet t23 1, cGet t23 2]]).bind (fin false)).bind fun t24 =>
        (pTup t24 0).bind fun t25 =>
        (pTup t24 1).bind fun t26 =>
        (pBin .neq false t25 t16).bind fun t27 =>
        (pG t27 false (some t26)).bind fun t28 =>
        (pG t27 false (some t17)).bind fun t29 =>
        (pG t27 false (pBin .neq true t28 t29)).bind fun t30 =>
        (pPick t27 (vb true) t30).bind fun t31 =>
        (pBool t31).bind fun t32 =>
        brn t32 (
          some ((vb false, []))) (
          ((G 12 [A.agg [cGet t0 0, cGet t0 1, cGet t0 2]]).bind (fin false)).bind fun t33 =>
          ((G 16 [A.agg [cGet t19 0, cGet t19 1, cGet t19 2], t33]).bind (fin false)).bind fun t34 =>
          (pUn .not t34).bind fun t35 =>
          (pBool t35).bind fun t36 =>
          brn t36 (
            some ((vb false, []))) (
            ((G 27 [A.agg [cGet t1 0, cGet t1 1, cGet t1 2]]).bind (fin false)).bind fun t37 =>
            ((G 29 [A.agg [cGet t21 0, cGet t21 1, cGet t21 2], t37]).bind (fin false)).bind fun t38 =>
            (pUn .not t38).bind fun t39 =>
            (pBool t39).bind fun t40 =>
            brn t40 (
              some ((vb false, []))) (
              ((G 27 [A.agg [cGet t2 0, cGet t2 1, cGet t2 2]]).bind (fin false)).bind fun t41 =>
              ((G 29 [A.agg [cGet t23 0, cGet t23 1, cGet t23 2], t41]).bind (fin false)).bind fun t42 =>
              (pUn .not t42).bind fun t43 =>
              (pBool t43).bind fun t44 =>
              brn t44 (
                some ((vb false, []))) (
                some ((vb true, []))))))))) :=
  (G_eq rfl Tryz.func5 rfl rfl).trans (by kernel_rfl)
theorem g9 (a0 a1 : A) : G 9 [a0, a1] =
  (pCells 3 a0).bind fun t0 =>
  ((G 44 [cGet t0 0, a1]).bind (fin false)).bind fun t1 =>
  (pBin .lss false t1 (vi 0)).bind fun t2 =>
  (pBool t2).bind fun t3 =>
  brn t3 (
    some ((vi (-1), []))) (
    ((G 45 [cGet t0 1, t1]).bind (fin false)).bind fun t4 =>
    (pBin .lss false t4 (vi 0)).bind fun t5 =>
    (pBool t5).bind fun t6 =>
    brn t6 (
      some ((vi (-1), []))) (
      some ((t4, [])))) :=
  (G_eq rfl Tryz.func9 rfl rfl).trans (by kernel_rfl)
theorem g10 (a0 a1 : A) : G 10 [a0, a1] =
  (pCells 2 a0).bind fun t0 =>
  (pLenS (cGet t0 0)).bind fun t1 =>
  (pBin .sub false a1 t1).bind fun t2 =>
  (pBin .lss false t2 (vi 0)).bind fun t3 =>
  (pBool t3).bind fun t4 =>
  brn t4 (
    some ((vi (-1), []))) (
    ((G 20 [cGet t0 1, t2]).bind (fin false)).bind fun t5 =>
    (pBin .lss false t5 (vi 0)).bind fun t6 =>
    (pBool t6).bind fun t7 =>
    brn t7 (
      some ((vi (-1), []))) (
      some ((t5, [])))) :=
  (G_eq rfl Tryz.func10 rfl rfl).trans (by kernel_rfl)
theorem g12 (a0 : A) : G 12 [a0] =
  (pCells 3 a0).bind fun t0 =>
  ((G 50 [cGet t0 0]).bind (fin false)).bind fun t1 =>
  brn (okA t1) (
    ((G 51 [cGet t0 1]).bind (fin false)).bind fun t2 =>
    brn (okA t2) (
      brn (okA (cGet t0 2)) (
        brn (okA t1) (
          brn (okA t2) (
            brn (okA (cGet t0 2)) (
              some ((A.agg [t1, t2, cGet t0 2], []))) (
              none)) (
            none)) (
          none)) (
        none)) (
      none)) (
    none) :=
  (G_eq rfl Tryz.func12 rfl rfl).trans (by kernel_rfl)
theorem g13 (a0 : A) : G 13 [a0] =
  (pCells 2 a0).bind fun t0 =>
  brn (okA (cGet t0 0)) (
    ((G 22 [cGet t0 1]).bind (fin false)).bind fun t1 =>
    brn (okA t1) (
      brn (okA (cGet t0 0)) (
        brn (okA t1) (
          some ((A.agg [cGet t0 0, t1], []))) (
          none)) (
        none)) (
      none)) (
    none) :=
  (G_eq rfl Tryz.func13 rfl rfl).trans (by kernel_rfl)
theorem g15 (a0 a1 : A) : G 15 [a0, a1] =
  (pCells 2 a0).bind fun t0 =>
  (pCells 2 a1).bind fun t1 =>
  (pBin .neq false (cGet t0 0) (cGet t1 0)).bind fun t2 =>
  (pBool t2).bind fun t3 =>
  brn t3 (
    some ((vb false, []))) (
    ((G 24 [cGet t0 1, cGet t1 1]).bind (fin false)).bind fun t4 =>
    (pUn .not t4).bind fun t5 =>
    (pBool t5).bind fun t6 =>
    brn t6 (
      some ((vb false, []))) (
      some ((vb true, [])))) :=
  (G_eq rfl Tryz.func15 rfl rfl).trans (by kernel_rfl)
theorem g16 (a0 a1 : A) : G 16 [a0, a1] =
  (pCells 3 a0).bind fun t0 =>
  (pCells 3 a1).bind fun t1 =>
  ((G 57 [cGet t0 0, cGet t1 0]).bind (fin false)).bind fun t2 =>
  (pUn .not t2).bind fun t3 =>
  (pBool t3).bind fun t4 =>
  brn t4 (
    some ((vb false, []))) (
    ((G 34 [cGet t0 1, cGet t1 1]).bind (fin false)).bind fun t5 =>
    (pUn .not t5).bind fun t6 =>
    (pBool t6).bind fun t7 =>
    brn t7 (
      some ((vb false, []))) (
      (pBin .neq false (cGet t0 2) (cGet t1 2)).bind fun t8 =>
      (pBool t8).bind fun t9 =>
      brn t9 (
        some ((vb false, []))) (
        some ((vb true, []))))) :=
  (G_eq rfl Tryz.func16 rfl rfl).trans (by kernel_rfl)
theorem g20 (a0 a1 : A) : G 20 [a0, a1] =
  (pLenL a0).bind fun t0 =>
  (pBin .sub false a1 t0).bind fun t1 =>
  (pBin .lss false t1 (vi 0)).bind fun t2 =>
  (pBool t2).bind fun t3 =>
  brn t3 (
    some ((vi (-1), []))) (
    L20_0 a0 t1 (vi 0)) :=
  (G_eq rfl Tryz.func20 rfl rfl).trans (by kernel_rfl)
theorem l20_0 (x0 x1 x2 : A) : L20_0 x0 x1 x2 =
  (pLenL x0).bind fun t4 =>
  (pBin .lss false x2 t4).bind fun t5 =>
  (pBool t5).bind fun t6 =>
  brn t6 (
    (pIndexAddr 2 x0 x2).bind fun t7 =>
    (pLoadN 2 t7).bind fun t8 =>
    ((G 10 [t8, x1]).bind (fin false)).bind fun t9 =>
    (pBin .lss false t9 (vi 0)).bind fun t10 =>
    (pBool t10).bind fun t11 =>
    brn t11 (
      some ((vi (-1), []))) (
      (pBin .add false x2 (vi 1)).bind fun t12 =>
      L20_0 x0 t9 t12)) (
    some ((x1, []))) :=
  (H_eq Tryz.func20 rfl).trans (by kernel_rfl)
theorem g21 (a0 a1 a2 : A) : G 21 [a0, a1, a2] =
  (pCells 3 a0).bind fun t0 =>
  ((G 46 [A.agg [cGet t0 0, cGet t0 1, cGet t0 2]]).bind (fin false)).bind fun t1 =>
  (pUn .not t1).bind fun t2 =>
  (pWant t2 false).bind fun t3 =>
  (pG t2 false (some a1)).bind fun t4 =>
  (pG t2 false ((G 60 [A.agg [cGet t0 0, cGet t0 1, cGet t0 2], t4]).bind (fin false))).bind fun t5 =>
  (pG t2 false (pUn .not t5)).bind fun t6 =>
  (pPick t2 (vb true) t6).bind fun t7 =>
  (pWant t7 false).bind fun t8 =>
  (pG t7 false (some a2)).bind fun t9 =>
  (pG t7 false ((G 60 [A.agg [cGet t0 0, cGet t0 1, cGet t0 2], t9]).bind (fin false))).bind fun t10 =>
  (pG t7 false (pUn .not t10)).bind fun t11 =>
  (pPick t7 (vb true) t11).bind fun t12 =>
  (pBool t12).bind fun t13 =>
  brn t13 (
    some ((A.tup [vi 0, vb false], []))) (
    ((G 61 [A.agg [cGet t0 0, cGet t0 1, cGet t0 2], a1, a2]).bind (fin false)).bind fun t14 =>
    some ((A.tup [t14, vb true], []))) :=
  (G_eq rfl Tryz.func21 rfl rfl).trans (by kernel_rfl)
theorem g22 (a0 : A) : G 22 [a0] =
  (pLenL a0).bind fun t0 =>
  (pMake 40 t0 t0).bind fun t1 =>
  L22_0 a0 (vi 0) (rRep t1 [sv [], A.sl 2 []]) :=
  (G_eq rfl Tryz.func22 rfl rfl).trans (by kernel_rfl)
theorem l22_0 (x0 x1 : A) (r0 : List (List A)) : L22_0 x0 x1 r0 =
  (pLenL x0).bind fun t2 =>
  (pBin .lss false x1 t2).bind fun t3 =>
  (pBool t3).bind fun t4 =>
  brn t4 (
    (pIndexAddr 2 x0 x1).bind fun t5 =>
    (pLoadN 2 t5).bind fun t6 =>
    ((G 13 [t6]).bind (fin false)).bind fun t7 =>
    (pIx (rLenN r0) x1).bind fun t8 =>
    (pCells 2 t7).bind fun t9 =>
    (rGet r0 t8).bind fun t10 =>
    (pBin .add false x1 (vi 1)).bind fun t11 =>
    L22_0 x0 t11 (rSet r0 t8 (cOver t10 0 [cGet t9 0, cGet t9 1]))) (
    some ((A.sl 2 r0, []))) :=
  (H_eq Tryz.func22 rfl).trans (by kernel_rfl)
theorem g23 (a0 a1 a2 : A) : G 23 [a0, a1, a2] =
  (pCells 3 a0).bind fun t0 =>
  (pLenL a1).bind fun t1 =>
  (pBin .gtr false t1 (vi 8)).bind fun t2 =>
  (pG t2 false (some a2)).bind fun t3 =>
  (pG t2 false (pLenL t3)).bind fun t4 =>
  (pG t2 false (pBin .gtr false t4 (vi 8))).bind fun t5 =>
  (pPick t2 (vb true) t5).bind fun t6 =>
  (pWant t6 false).bind fun t7 =>
  (pG t6 false (some a1)).bind fun t8 =>
  (pG t6 false ((G 62 [A.agg [cGet t0 0, cGet t0 1, cGet t0 2], t8]).bind (fin false))).bind fun t9 =>
  (pG t6 false (pUn .not t9)).bind fun t10 =>
  (pPick t6 (vb true) t10).bind fun t11 =>
  (pWant t11 false).bind fun t12 =>
  (pG t11 false (some a2)).bind fun t13 =>
  (pG t11 false ((G 62 [A.agg [cGet t0 0, cGet t0 1, cGet t0 2], t13]).bind (fin false))).bind fun t14 =>
  (pG t11 false (pUn .not t14)).bind fun t15 =>
  (pPick t11 (vb true) t15).bind fun t16 =>
  (pBool t16).bind fun t17 =>
  brn t17 (
    some ((A.tup [vi 0, vb false], []))) (
    ((G 63 [A.agg [cGet t0 0, cGet t0 1, cGet t0 2], a1, a2]).bind (fin false)).bind fun t18 =>
    some ((A.tup [t18, vb true], []))) :=
  (G_eq rfl Tryz.func23 rfl rfl).trans (by kernel_rfl)
theorem g24 (a0 a1 : A) : G 24 [a0, a1] =
  (pLenL a0).bind fun t0 =>
  (pLenL a1).bind fun t1 =>
  (pBin .neq false t0 t1).bind fun t2 =>
  (pBool t2).bind fun t3 =>
  brn t3 (
    some ((vb false, []))) (
    L24_0 a0 a1 (vi 0)) :=
  (G_eq rfl Tryz.func24 rfl rfl).trans (by kernel_rfl)
theorem l24_0 (x0 x1 x2 : A) : L24_0 x0 x1 x2 =
  (pLenL x0).bind fun t4 =>
  (pBin .lss false x2 t4).bind fun t5 =>
  (pBool t5).bind fun t6 =>
  brn t6 (
    (pIndexAddr 2 x0 x2).bind fun t7 =>
    (pLoadN 2 t7).bind fun t8 =>
    (pIndexAddr 2 x1 x2).bind fun t9 =>
    (pLoadN 2 t9).bind fun t10 =>
    ((G 15 [t8, t10]).bind (fin false)).bind fun t11 =>
    (pUn .not t11).bind fun t12 =>
    (pBool t12).bind fun t13 =>
    brn t13 (
      some ((vb false, []))) (
      (pBin .add false x2 (vi 1)).bind fun t14 =>
      L24_0 x0 x1 t14)) (
    some ((vb true, []))) :=
  (H_eq Tryz.func24 rfl).trans (by kernel_rfl)
theorem g25 (a0 a1 : A) : G 25 [a0, a1] =
  (pCells 3 a0).bind fun t0 =>
  ((G 10 [A.agg [cGet t0 1, cGet t0 2], a1]).bind (fin false)).bind fun t1 =>
  (pBin .lss false t1 (vi 0)).bind fun t2 =>
  (pBool t2).bind fun t3 =>
  brn t3 (
    some ((vi (-1), []))) (
    some ((t1, []))) :=
  (G_eq rfl Tryz.func25 rfl rfl).trans (by kernel_rfl)
theorem g26 (a0 a1 a2 : A) : G 26 [a0, a1, a2] =
  (pCells 3 a0).bind fun t0 =>
  (pCells 3 a1).bind fun t1 =>
  (pCells 3 a2).bind fun t2 =>
  ((G 46 [A.agg [cGet t0 0, cGet t0 1, cGet t0 2]]).bind (fin false)).bind fun t3 =>
  (pUn .not t3).bind fun t4 =>
  (pBool t4).bind fun t5 =>
  brn t5 (
    some ((A.tup [vi 0, vb false], []))) (
    ((G 64 [A.agg [cGet t0 0, cGet t0 1, cGet t0 2], A.agg [cGet t1 0, cGet t1 1, cGet t1 2]]).bind (fin false)).bind fun t6 =>
    (pTup t6 0).bind fun t7 =>
    (pTup t6 1).bind fun t8 =>
    ((G 64 [A.agg [cGet t0 0, cGet t0 1, cGet t0 2], A.agg [cGet t2 0, cGet t2 1, cGet t2 2]]).bind (fin false)).bind fun t9 =>
    (pTup t9 0).bind fun t10 =>
    (pTup t9 1).bind fun t11 =>
    (pUn .not t8).bind fun t12 =>
    (pG t12 false (some t11)).bind fun t13 =>
    (pG t12 false (pUn .not t13)).bind fun t14 =>
    (pPick t12 (vb true) t14).bind fun t15 =>
    (pBool t15).bind fun t16 =>
    brn t16 (
      some ((A.tup [vi 0, vb false], []))) (
      ((G 61 [A.agg [cGet t0 0, cGet t0 1, cGet t0 2], t7, t10]).bind (fin false)).bind fun t17 =>
      some ((A.tup [t17, vb true], [])))) :=
  (G_eq rfl Tryz.func26 rfl rfl).trans (by kernel_rfl)
theorem g27 (a0 : A) : G 27 [a0] =
  (pCells 3 a0).bind fun t0 =>
  brn (okA (cGet t0 0)) (
    ((G 13 [A.agg [cGet t0 1, cGet t0 2]]).bind (fin false)).bind fun t1 =>
    (pCells 2 t1).bind fun t2 =>
    brn (okA (cGet t0 0)) (
      brn (okA (cGet t2 0)) (
        brn (okA (cGet t2 1)) (
          some ((A.agg [cGet t0 0, cGet t2 0, cGet t2 1], []))) (
          none)) (
        none)) (
      none)) (
    none) :=
  (G_eq rfl Tryz.func27 rfl rfl).trans (by kernel_rfl)
theorem g28 (a0 a1 a2 : A) : G 28 [a0, a1, a2] =
  (pCells 3 a0).bind fun t0 =>
  (pCells 3 a1).bind fun t1 =>
  (pCells 3 a2).bind fun t2 =>
  ((G 53 [A.agg [cGet t0 0, cGet t0 1, cGet t0 2]]).bind (fin false)).bind fun t3 =>
  (pUn .not t3).bind fun t4 =>
  (pWant t4 false).bind fun t5 =>
  (pWant t4 false).bind fun t6 =>
  (pWant t4 false).bind fun t7 =>
  (pG t4 false ((G 54 [A.agg [cGet t0 0, cGet t0 1, cGet t0 2], A.agg [cGet t1 1, cGet t1 2]]).bind (fin false))).bind fun t8 =>
  (pG t4 false (pUn .not t8)).bind fun t9 =>
  (pPick t4 (vb true) t9).bind fun t10 =>
  (pWant t10 false).bind fun t11 =>
  (pWant t10 false).bind fun t12 =>
  (pWant t10 false).bind fun t13 =>
  (pG t10 false ((G 54 [A.agg [cGet t0 0, cGet t0 1, cGet t0 2], A.agg [cGet t2 1, cGet t2 2]]).bind (fin false))).bind fun t14 =>
  (pG t10 false (pUn .not t14)).bind fun t15 =>
  (pPick t10 (vb true) t15).bind fun t16 =>
  (pBool t16).bind fun t17 =>
  brn t17 (
    some ((A.tup [vi 0, vb false], []))) (
    ((G 65 [A.agg [cGet t0 0, cGet t0 1, cGet t0 2], A.agg [cGet t1 0, cGet t1 1, cGet t1 2], A.agg [cGet t2 0, cGet t2 1, cGet t2 2]]).bind (fin false)).bind fun t18 =>
    some ((A.tup [t18, vb true], []))) :=
  (G_eq rfl Tryz.func28 rfl rfl).trans (by kernel_rfl)
theorem g29 (a0 a1 : A) : G 29 [a0, a1] =
  (pCells 3 a0).bind fun t0 =>
  (pCells 3 a1).bind fun t1 =>
  (pBin .neq true (cGet t0 0) (cGet t1 0)).bind fun t2 =>
  (pBool t2).bind fun t3 =>
  brn t3 (
    some ((vb false, []))) (
    ((G 15 [A.agg [cGet t0 1, cGet t0 2], A.agg [cGet t1 1, cGet t1 2]]).bind (fin false)).bind fun t4 =>
    (pUn .not t4).bind fun t5 =>
    (pBool t5).bind fun t6 =>
    brn t6 (
      some ((vb false, []))) (
      some ((vb true, [])))) :=
  (G_eq rfl Tryz.func29 rfl rfl).trans (by kernel_rfl)
theorem g34 (a0 a1 : A) : G 34 [a0, a1] =
  (pLenL a0).bind fun t0 =>
  (pLenL a1).bind fun t1 =>
  (pBin .neq false t0 t1).bind fun t2 =>
  (pBool t2).bind fun t3 =>
  brn t3 (
    some ((vb false, []))) (
    L34_0 a0 a1 (vi 0)) :=
  (G_eq rfl Tryz.func34 rfl rfl).trans (by kernel_rfl)
theorem l34_0 (x0 x1 x2 : A) : L34_0 x0 x1 x2 =
  (pLenL x0).bind fun t4 =>
  (pBin .lss false x2 t4).bind fun t5 =>
  (pBool t5).bind fun t6 =>
  brn t6 (
    (pIndexAddr 1 x0 x2).bind fun t7 =>
    (pLoadP t7).bind fun t8 =>
    (pIndexAddr 1 x1 x2).bind fun t9 =>
    (pLoadP t9).bind fun t10 =>
    (pBin .neq false t8 t10).bind fun t11 =>
    (pBool t11).bind fun t12 =>
    brn t12 (
      some ((vb false, []))) (
      (pBin .add false x2 (vi 1)).bind fun t13 =>
      L34_0 x0 x1 t13)) (
    some ((vb true, []))) :=
  (H_eq Tryz.func34 rfl).trans (by kernel_rfl)
theorem g44 (a0 a1 : A) : G 44 [a0, a1] =
  (pLenL a0).bind fun t0 =>
  (pBin .sub false a1 t0).bind fun t1 =>
  (pBin .lss false t1 (vi 0)).bind fun t2 =>
  (pBool t2).bind fun t3 =>
  brn t3 (
    some ((vi (-1), []))) (
    L44_0 a0 t1 (vi 0)) :=
  (G_eq rfl Tryz.func44 rfl rfl).trans (by kernel_rfl)
theorem l44_0 (x0 x1 x2 : A) : L44_0 x0 x1 x2 =
  (pLenL x0).bind fun t4 =>
  (pBin .lss false x2 t4).bind fun t5 =>
  (pBool t5).bind fun t6 =>
  brn t6 (
    (pIndexAddr 1 x0 x2).bind fun t7 =>
    (pLoadP t7).bind fun t8 =>
    (pLenS t8).bind fun t9 =>
    (pBin .sub false x1 t9).bind fun t10 =>
    (pBin .lss false t10 (vi 0)).bind fun t11 =>
    (pBool t11).bind fun t12 =>
    brn t12 (
      some ((vi (-1), []))) (
      (pBin .add false x2 (vi 1)).bind fun t13 =>
      L44_0 x0 t10 t13)) (
    some ((x1, []))) :=
  (H_eq Tryz.func44 rfl).trans (by kernel_rfl)
theorem g45 (a0 a1 : A) : G 45 [a0, a1] =
  (pLenL a0).bind fun t0 =>
  (pBin .sub false a1 t0).bind fun t1 =>
  (pBin .lss false t1 (vi 0)).bind fun t2 =>
  (pBool t2).bind fun t3 =>
  brn t3 (
    some ((vi (-1), []))) (
    some ((t1, []))) :=
  (G_eq rfl Tryz.func45 rfl rfl).trans (by kernel_rfl)
theorem g46 (a0 : A) : G 46 [a0] =
  (pCells 3 a0).bind fun t0 =>
  (pLenL (cGet t0 0)).bind fun t1 =>
  ((G 84 [t1, vi 1, vi 12]).bind (fin false)).bind fun t2 =>
  (pUn .not t2).bind fun t3 =>
  (pWant t3 false).bind fun t4 =>
  (pG t3 false (some (cGet t0 1))).bind fun t5 =>
  (pG t3 false (pLenL t5)).bind fun t6 =>
  (pWant t3 false).bind fun t7 =>
  (pG t3 false (some (cGet t0 0))).bind fun t8 =>
  (pG t3 false (pLenL t8)).bind fun t9 =>
  (pG t3 false (pBin .neq false t6 t9)).bind fun t10 =>
  (pPick t3 (vb true) t10).bind fun t11 =>
  (pWant t11 false).bind fun t12 =>
  (pG t11 false (some (cGet t0 2))).bind fun t13 =>
  (pG t11 false ((G 84 [t13, vi 1, vi 100]).bind (fin false))).bind fun t14 =>
  (pG t11 false (pUn .not t14)).bind fun t15 =>
  (pPick t11 (vb true) t15).bind fun t16 =>
  (pBool t16).bind fun t17 =>
  brn t17 (
    some ((vb false, []))) (
    L46_0 (vi 0) (cGet t0 0) (cGet t0 1) (cGet t0 2)) :=
  (G_eq rfl Tryz.func46 rfl rfl).trans (by kernel_rfl)
theorem l46_0 (x0 x1 x2 x3 : A) : L46_0 x0 x1 x2 x3 =
  (pLenL x1).bind fun t18 =>
  (pBin .lss false x0 t18).bind fun t19 =>
  (pBool t19).bind fun t20 =>
  brn t20 (
    (pIndexAddr 1 x1 x0).bind fun t21 =>
    (pLoadP t21).bind fun t22 =>
    ((G 85 [t22]).bind (fin false)).bind fun t23 =>
    (pUn .not t23).bind fun t24 =>
    (pWant t24 false).bind fun t25 =>
    (pG t24 false (some x1)).bind fun t26 =>
    (pG t24 false (some x0)).bind fun t27 =>
    (pG t24 false (pSlice 1 t26 none (some t27))).bind fun t28 =>
    (pWant t24 false).bind fun t29 =>
    (pG t24 false (some x1)).bind fun t30 =>
    (pG t24 false (some x0)).bind fun t31 =>
    (pG t24 false (pIndexAddr 1 t30 t31)).bind fun t32 =>
    (pG t24 false (pLoadP t32)).bind fun t33 =>
    (pG t24 false ((G 86 [t28, t33]).bind (fin false))).bind fun t34 =>
    (pPick t24 (vb true) t34).bind fun t35 =>
    (pWant t35 false).bind fun t36 =>
    (pG t35 false (some x2)).bind fun t37 =>
    (pG t35 false (some x0)).bind fun t38 =>
    (pG t35 false (pIndexAddr 1 t37 t38)).bind fun t39 =>
    (pG t35 false (pLoadP t39)).bind fun t40 =>
    (pWant t35 false).bind fun t41 =>
    (pG t35 false (some x3)).bind fun t42 =>
    (pG t35 false ((G 84 [t40, t42, vi 100]).bind (fin false))).bind fun t43 =>
    (pG t35 false (pUn .not t43)).bind fun t44 =>
    (pPick t35 (vb true) t44).bind fun t45 =>
    (pBool t45).bind fun t46 =>
    brn t46 (
      some ((vb false, []))) (
      (pBin .add false x0 (vi 1)).bind fun t47 =>
      L46_0 t47 x1 x2 x3)) (
    some ((vb true, []))) :=
  (H_eq Tryz.func46 rfl).trans (by kernel_rfl)
theorem g48 (a0 a1 a2 : A) : G 48 [a0, a1, a2] =
  (pCells 3 a0).bind fun t0 =>
  (pCells 2 a1).bind fun t1 =>
  (pCells 2 a2).bind fun t2 =>
  ((G 88 [A.agg [cGet t1 0, cGet t1 1], A.agg [cGet t2 0, cGet t2 1]]).bind (fin false)).bind fun t3 =>
  (pUn .not t3).bind fun t4 =>
  (pBool t4).bind fun t5 =>
  brn t5 (
    some ((vb false, []))) (
    ((G 89 [A.agg [cGet t0 0, cGet t0 1, cGet t0 2], A.agg [cGet t1 0, cGet t1 1]]).bind (fin false)).bind fun t6 =>
    ((G 89 [A.agg [cGet t0 0, cGet t0 1, cGet t0 2], A.agg [cGet t2 0, cGet t2 1]]).bind (fin false)).bind fun t7 =>
    (pBin .neq false t6 t7).bind fun t8 =>
    (pBool t8).bind fun t9 =>
    brn t9 (
      (pBin .gtr false t6 t7).bind fun t10 =>
      some ((t10, []))) (
      ((G 90 [cGet t1 0]).bind (fin false)).bind fun t11 =>
      (pWant t11 false).bind fun t12 =>
      (pG t11 false (some (cGet t2 0))).bind fun t13 =>
      (pG t11 false ((G 90 [t13]).bind (fin false))).bind fun t14 =>
      (pPick t11 (vb true) t14).bind fun t15 =>
      (pBool t15).bind fun t16 =>
      brn t16 (
        some ((vb false, []))) (
        ((G 91 [A.agg [cGet t0 0, cGet t0 1, cGet t0 2], A.agg [cGet t1 0, cGet t1 1], A.agg [cGet t2 0, cGet t2 1]]).bind (fin false)).bind fun t17 =>
        (pBin .neq false t17 (vi 0)).bind fun t18 =>
        (pBool t18).bind fun t19 =>
        brn t19 (
          (pBin .gtr false t17 (vi 0)).bind fun t20 =>
          some ((t20, []))) (
          ((G 92 [A.agg [cGet t1 0, cGet t1 1], A.agg [cGet t2 0, cGet t2 1]]).bind (fin false)).bind fun t21 =>
          (pBin .geq false t21 (vi 0)).bind fun t22 =>
          (pWant t22 true).bind fun t23 =>
          (pWant t22 true).bind fun t24 =>
          (pG t22 true (some (cGet t1 1))).bind fun t25 =>
          (pG t22 true (some t21)).bind fun t26 =>
          (pG t22 true (pIndexAddr 2 t25 t26)).bind fun t27 =>
          (pG t22 true (pLoadN 2 t27)).bind fun t28 =>
          (pWant t22 true).bind fun t29 =>
          (pG t22 true (some (cGet t2 1))).bind fun t30 =>
          (pG t22 true (some t21)).bind fun t31 =>
          (pG t22 true (pIndexAddr 2 t30 t31)).bind fun t32 =>
          (pG t22 true (pLoadN 2 t32)).bind fun t33 =>
          (pG t22 true ((G 48 [A.agg [cGet t0 0, cGet t0 1, cGet t0 2], t28, t33]).bind (fin false))).bind fun t34 =>
          (pPick t22 t34 (vb false)).bind fun t35 =>
          some ((t35, [])))))) :=
  (G_eq rfl Tryz.func48 rfl rfl).trans (by kernel_rfl)
theorem g50 (a0 : A) : G 50 [a0] =
  (pLenL a0).bind fun t0 =>
  (pMake 16 t0 t0).bind fun t1 =>
  L50_0 a0 (vi 0) (rRep t1 [sv []]) :=
  (G_eq rfl Tryz.func50 rfl rfl).trans (by kernel_rfl)
theorem l50_0 (x0 x1 : A) (r0 : List (List A)) : L50_0 x0 x1 r0 =
  (pLenL x0).bind fun t2 =>
  (pBin .lss false x1 t2).bind fun t3 =>
  (pBool t3).bind fun t4 =>
  brn t4 (
    (pIndexAddr 1 x0 x1).bind fun t5 =>
    (pLoadP t5).bind fun t6 =>
    (pIx (rLenN r0) x1).bind fun t7 =>
    brn (okA t6) (
      (rGet r0 t7).bind fun t8 =>
      (pBin .add false x1 (vi 1)).bind fun t9 =>
      L50_0 x0 t9 (rSet r0 t7 (cOver t8 0 [t6]))) (
      none)) (
    some ((A.sl 1 r0, []))) :=
  (H_eq Tryz.func50 rfl).trans (by kernel_rfl)
theorem g51 (a0 : A) : G 51 [a0] =
  (pLenL a0).bind fun t0 =>
  (pMake 8 t0 t0).bind fun t1 =>
  L51_0 a0 (vi 0) (rRep t1 [vi 0]) :=
  (G_eq rfl Tryz.func51 rfl rfl).trans (by kernel_rfl)
theorem l51_0 (x0 x1 : A) (r0 : List (List A)) : L51_0 x0 x1 r0 =
  (pLenL x0).bind fun t2 =>
  (pBin .lss false x1 t2).bind fun t3 =>
  (pBool t3).bind fun t4 =>
  brn t4 (
    (pIndexAddr 1 x0 x1).bind fun t5 =>
    (pLoadP t5).bind fun t6 =>
    (pIx (rLenN r0) x1).bind fun t7 =>
    brn (okA t6) (
      (rGet r0 t7).bind fun t8 =>
      (pBin .add false x1 (vi 1)).bind fun t9 =>
      L51_0 x0 t9 (rSet r0 t7 (cOver t8 0 [t6]))) (
      none)) (
    some ((A.sl 1 r0, []))) :=
  (H_eq Tryz.func51 rfl).trans (by kernel_rfl)
theorem g52 (a0 : A) : G 52 [a0] =
  (pCells 2 a0).bind fun t0 =>
  (pBin .eql false (cGet t0 0) (sv [61])).bind fun t1 =>
  some ((t1, [])) :=
  (G_eq rfl Tryz.func52 rfl rfl).trans (by kernel_rfl)
theorem g53 (a0 : A) : G 53 [a0] =
  (pCells 3 a0).bind fun t0 =>
  (pLenL (cGet t0 0)).bind fun t1 =>
  ((G 93 [t1, vi 1, vi 12]).bind (fin false)).bind fun t2 =>
  (pUn .not t2).bind fun t3 =>
  (pWant t3 false).bind fun t4 =>
  (pG t3 false (some (cGet t0 1))).bind fun t5 =>
  (pG t3 false (pLenL t5)).bind fun t6 =>
  (pWant t3 false).bind fun t7 =>
  (pG t3 false (some (cGet t0 0))).bind fun t8 =>
  (pG t3 false (pLenL t8)).bind fun t9 =>
  (pG t3 false (pBin .neq false t6 t9)).bind fun t10 =>
  (pPick t3 (vb true) t10).bind fun t11 =>
  (pWant t11 false).bind fun t12 =>
  (pG t11 false (some (cGet t0 2))).bind fun t13 =>
  (pG t11 false ((G 93 [t13, vi 1, vi 100]).bind (fin false))).bind fun t14 =>
  (pG t11 false (pUn .not t14)).bind fun t15 =>
  (pPick t11 (vb true) t15).bind fun t16 =>
  (pBool t16).bind fun t17 =>
  brn t17 (
    some ((vb false, []))) (
    (pLenL (cGet t0 0)).bind fun t18 =>
    L53_0 (cGet t0 0) t18 (vi 0) (cGet t0 0) (cGet t0 1) (cGet t0 2)) :=
  (G_eq rfl Tryz.func53 rfl rfl).trans (by kernel_rfl)
theorem l53_0 (x0 x1 x2 x3 x4 x5 : A) : L53_0 x0 x1 x2 x3 x4 x5 =
  (pBin .lss false x2 x1).bind fun t19 =>
  (pBool t19).bind fun t20 =>
  brn t20 (
    (pIndexAddr 1 x0 x2).bind fun t21 =>
    (pLoadP t21).bind fun t22 =>
    ((G 94 [t22]).bind (fin false)).bind fun t23 =>
    (pUn .not t23).bind fun t24 =>
    (pWant t24 false).bind fun t25 =>
    (pG t24 false (some x3)).bind fun t26 =>
    (pG t24 false (some x2)).bind fun t27 =>
    (pG t24 false (pSlice 1 t26 none (some t27))).bind fun t28 =>
    (pG t24 false (some t22)).bind fun t29 =>
    (pG t24 false ((G 95 [t28, t29]).bind (fin false))).bind fun t30 =>
    (pPick t24 (vb true) t30).bind fun t31 =>
    (pWant t31 false).bind fun t32 =>
    (pG t31 false (some x4)).bind fun t33 =>
    (pG t31 false (some x2)).bind fun t34 =>
    (pG t31 false (pIndexAddr 1 t33 t34)).bind fun t35 =>
    (pG t31 false (pLoadP t35)).bind fun t36 =>
    (pWant t31 false).bind fun t37 =>
    (pG t31 false (some x5)).bind fun t38 =>
    (pG t31 false ((G 93 [t36, t38, vi 100]).bind (fin false))).bind fun t39 =>
    (pG t31 false (pUn .not t39)).bind fun t40 =>
    (pPick t31 (vb true) t40).bind fun t41 =>
    (pBool t41).bind fun t42 =>
    brn t42 (
      some ((vb false, []))) (
      (pBin .add false x2 (vi 1)).bind fun t43 =>
      L53_0 x0 x1 t43 x3 x4 x5)) (
    some ((vb true, []))) :=
  (H_eq Tryz.func53 rfl).trans (by kernel_rfl)
theorem g54 (a0 a1 : A) : G 54 [a0, a1] =
  (pCells 3 a0).bind fun t0 =>
  (pCells 2 a1).bind fun t1 =>
  ((G 76 [A.agg [cGet t1 0, cGet t1 1]]).bind (fin false)).bind fun t2 =>
  (pUn .not t2).bind fun t3 =>
  (pBool t3).bind fun t4 =>
  brn t4 (
    some ((vb false, []))) (
    ((G 52 [A.agg [cGet t1 0, cGet t1 1]]).bind (fin false)).bind fun t5 =>
    (pBool t5).bind fun t6 =>
    brn t6 (
      (pIndexAddr 2 (cGet t1 1) (vi 0)).bind fun t7 =>
      (pLoadN 2 t7).bind fun t8 =>
      ((G 96 [A.agg [cGet t0 0, cGet t0 1, cGet t0 2], t8]).bind (fin false)).bind fun t9 =>
      (pWant t9 true).bind fun t10 =>
      (pWant t9 true).bind fun t11 =>
      (pG t9 true (some (cGet t1 1))).bind fun t12 =>
      (pG t9 true (pIndexAddr 2 t12 (vi 1))).bind fun t13 =>
      (pG t9 true (pLoadN 2 t13)).bind fun t14 =>
      (pG t9 true ((G 96 [A.agg [cGet t0 0, cGet t0 1, cGet t0 2], t14]).bind (fin false))).bind fun t15 =>
      (pPick t9 t15 (vb false)).bind fun t16 =>
      some ((t16, []))) (
      ((G 96 [A.agg [cGet t0 0, cGet t0 1, cGet t0 2], A.agg [cGet t1 0, cGet t1 1]]).bind (fin false)).bind fun t17 =>
      some ((t17, [])))) :=
  (G_eq rfl Tryz.func54 rfl rfl).trans (by kernel_rfl)
theorem g56 (a0 a1 a2 : A) : G 56 [a0, a1, a2] =
  (pCells 3 a0).bind fun t0 =>
  (pCells 2 a1).bind fun t1 =>
  (pCells 2 a2).bind fun t2 =>
  ((G 77 [A.agg [cGet t1 0, cGet t1 1], A.agg [cGet t2 0, cGet t2 1]]).bind (fin false)).bind fun t3 =>
  ((G 98 [t3, A.fn 99 [A.elt [cGet t0 0, cGet t0 1, cGet t0 2] 0, A.elt [cGet t1 0, cGet t1 1] 0, A.elt [cGet t2 0, cGet t2 1] 0], A.fn 101 [A.elt [cGet t0 0, cGet t0 1, cGet t0 2] 0, A.elt [cGet t2 0, cGet t2 1] 0, A.elt [cGet t1 0, cGet t1 1] 0]]).bind (fin true)).bind fun t4 =>
  some ((t4, [])) :=
  (G_eq rfl Tryz.func56 rfl rfl).trans (by kernel_rfl)
theorem g57 (a0 a1 : A) : G 57 [a0, a1] =
  (pLenL a0).bind fun t0 =>
  (pLenL a1).bind fun t1 =>
  (pBin .neq false t0 t1).bind fun t2 =>
  (pBool t2).bind fun t3 =>
  brn t3 (
    some ((vb false, []))) (
    L57_0 a0 a1 (vi 0)) :=
  (G_eq rfl Tryz.func57 rfl rfl).trans (by kernel_rfl)
theorem l57_0 (x0 x1 x2 : A) : L57_0 x0 x1 x2 =
  (pLenL x0).bind fun t4 =>
  (pBin .lss false x2 t4).bind fun t5 =>
  (pBool t5).bind fun t6 =>
  brn t6 (
    (pIndexAddr 1 x0 x2).bind fun t7 =>
    (pLoadP t7).bind fun t8 =>
    (pIndexAddr 1 x1 x2).bind fun t9 =>
    (pLoadP t9).bind fun t10 =>
    (pBin .neq false t8 t10).bind fun t11 =>
    (pBool t11).bind fun t12 =>
    brn t12 (
      some ((vb false, []))) (
      (pBin .add false x2 (vi 1)).bind fun t13 =>
      L57_0 x0 x1 t13)) (
    some ((vb true, []))) :=
  (H_eq Tryz.func57 rfl).trans (by kernel_rfl)
theorem g60 (a0 a1 : A) : G 60 [a0, a1] =
  (pCells 3 a0).bind fun t0 =>
  L60_0 a1 (vi 0) (cGet t0 0) (cGet t0 1) (cGet t0 2) :=
  (G_eq rfl Tryz.func60 rfl rfl).trans (by kernel_rfl)
theorem l60_0 (x0 x1 x2 x3 x4 : A) : L60_0 x0 x1 x2 x3 x4 =
  (pLenL x0).bind fun t1 =>
  (pBin .lss false x1 t1).bind fun t2 =>
  (pG t2 true (some x1)).bind fun t3 =>
  (pG t2 true (pBin .leq false t3 (vi 8))).bind fun t4 =>
  (pPick t2 t4 (vb false)).bind fun t5 =>
  (pBool t5).bind fun t6 =>
  brn t6 (
    (pIndexAddr 2 x0 x1).bind fun t7 =>
    (pLoadN 2 t7).bind fun t8 =>
    ((G 102 [A.agg [x2, x3, x4], t8]).bind (fin false)).bind fun t9 =>
    (pUn .not t9).bind fun t10 =>
    (pBool t10).bind fun t11 =>
    brn t11 (
      some ((vb false, []))) (
      (pBin .add false x1 (vi 1)).bind fun t12 =>
      L60_0 x0 t12 x2 x3 x4)) (
    (pLenL x0).bind fun t13 =>
    (pBin .leq false t13 (vi 8)).bind fun t14 =>
    some ((t14, []))) :=
  (H_eq Tryz.func60 rfl).trans (by kernel_rfl)
theorem g61 (a0 a1 a2 : A) : G 61 [a0, a1, a2] =
  (pCells 3 a0).bind fun t0 =>
  ((G 103 [a1, a2]).bind (fin false)).bind fun t1 =>
  ((G 103 [a2, a1]).bind (fin false)).bind fun t2 =>
  L61_0 t1 t2 (vb true) (vb true) (vi 0) (cGet t0 0) (cGet t0 1) (cGet t0 2) :=
  (G_eq rfl Tryz.func61 rfl rfl).trans (by kernel_rfl)
theorem l61_0 (x0 x1 x2 x3 x4 x5 x6 x7 : A) : L61_0 x0 x1 x2 x3 x4 x5 x6 x7 =
  (pLenL x1).bind fun t3 =>
  (pBin .lss false x4 t3).bind fun t4 =>
  (pBool t4).bind fun t5 =>
  brn t5 (
    L61_1 x0 x1 x2 x3 x4 (vb false) (vi 0) x5 x6 x7) (
    L61_2 x0 x1 x2 x3 (vi 0) x5 x6 x7) :=
  (H_eq Tryz.func61 rfl).trans (by kernel_rfl)
theorem l61_1 (x0 x1 x2 x3 x4 x5 x6 x7 x8 x9 : A) : L61_1 x0 x1 x2 x3 x4 x5 x6 x7 x8 x9 =
  (pLenL x0).bind fun t6 =>
  (pBin .lss false x6 t6).bind fun t7 =>
  (pBool t7).bind fun t8 =>
  brn t8 (
    (pWant x5 false).bind fun t9 =>
    (pG x5 false (some x0)).bind fun t10 =>
    (pG x5 false (some x6)).bind fun t11 =>
    (pG x5 false (pIndexAddr 2 t10 t11)).bind fun t12 =>
    (pG x5 false (pLoadN 2 t12)).bind fun t13 =>
    (pG x5 false (some x1)).bind fun t14 =>
    (pG x5 false (some x4)).bind fun t15 =>
    (pG x5 false (pIndexAddr 2 t14 t15)).bind fun t16 =>
    (pG x5 false (pLoadN 2 t16)).bind fun t17 =>
    (pG x5 false ((G 104 [A.agg [x7, x8, x9], t13, t17]).bind (fin false))).bind fun t18 =>
    (pPick x5 (vb true) t18).bind fun t19 =>
    (pBin .add false x6 (vi 1)).bind fun t20 =>
    L61_1 x0 x1 x2 x3 x4 t19 t20 x7 x8 x9) (
    (pG x2 true (some x5)).bind fun t21 =>
    (pPick x2 t21 (vb false)).bind fun t22 =>
    (pBin .add false x4 (vi 1)).bind fun t23 =>
    L61_0 x0 x1 t22 x3 t23 x7 x8 x9) :=
  (H_eq Tryz.func61 rfl).trans (by kernel_rfl)
theorem l61_2 (x0 x1 x2 x3 x4 x5 x6 x7 : A) : L61_2 x0 x1 x2 x3 x4 x5 x6 x7 =
  (pLenL x0).bind fun t24 =>
  (pBin .lss false x4 t24).bind fun t25 =>
  (pBool t25).bind fun t26 =>
  brn t26 (
    L61_3 x0 x1 x2 x3 x4 (vb false) (vi 0) x5 x6 x7) (
    (pLenL x0).bind fun t27 =>
    (pLenL x1).bind fun t28 =>
    (pBin .add false t27 t28).bind fun t29 =>
    (pBin .eql false t29 (vi 0)).bind fun t30 =>
    ((G 105 [t30, x2, x3]).bind (fin false)).bind fun t31 =>
    some ((t31, []))) :=
  (H_eq Tryz.func61 rfl).trans (by kernel_rfl)
theorem l61_3 (x0 x1 x2 x3 x4 x5 x6 x7 x8 x9 : A) : L61_3 x0 x1 x2 x3 x4 x5 x6 x7 x8 x9 =
  (pLenL x1).bind fun t32 =>
  (pBin .lss false x6 t32).bind fun t33 =>
  (pBool t33).bind fun t34 =>
  brn t34 (
    (pWant x5 false).bind fun t35 =>
    (pG x5 false (some x1)).bind fun t36 =>
    (pG x5 false (some x6)).bind fun t37 =>
    (pG x5 false (pIndexAddr 2 t36 t37)).bind fun t38 =>
    (pG x5 false (pLoadN 2 t38)).bind fun t39 =>
    (pG x5 false (some x0)).bind fun t40 =>
    (pG x5 false (some x4)).bind fun t41 =>
    (pG x5 false (pIndexAddr 2 t40 t41)).bind fun t42 =>
    (pG x5 false (pLoadN 2 t42)).bind fun t43 =>
    (pG x5 false ((G 104 [A.agg [x7, x8, x9], t39, t43]).bind (fin false))).bind fun t44 =>
    (pPick x5 (vb true) t44).bind fun t45 =>
    (pBin .add false x6 (vi 1)).bind fun t46 =>
    L61_3 x0 x1 x2 x3 x4 t45 t46 x7 x8 x9) (
    (pG x3 true (some x5)).bind fun t47 =>
    (pPick x3 t47 (vb false)).bind fun t48 =>
    (pBin .add false x4 (vi 1)).bind fun t49 =>
    L61_2 x0 x1 x2 t48 t49 x7 x8 x9) :=
  (H_eq Tryz.func61 rfl).trans (by kernel_rfl)
theorem g62 (a0 a1 : A) : G 62 [a0, a1] =
  (pCells 3 a0).bind fun t0 =>
  ((G 53 [A.agg [cGet t0 0, cGet t0 1, cGet t0 2]]).bind (fin false)).bind fun t1 =>
  (pG t1 true (some a1)).bind fun t2 =>
  (pWant t1 true).bind fun t3 =>
  (pG t1 true ((G 106 [t2, A.fn 107 [A.elt [cGet t0 0, cGet t0 1, cGet t0 2] 0]]).bind (fin true))).bind fun t4 =>
  (pG t1 true (pUn .not t4)).bind fun t5 =>
  (pPick t1 t5 (vb false)).bind fun t6 =>
  some ((t6, [])) :=
  (G_eq rfl Tryz.func62 rfl rfl).trans (by kernel_rfl)
theorem g63 (a0 a1 a2 : A) : G 63 [a0, a1, a2] =
  (pCells 3 a0).bind fun t0 =>
  brn (okA a1) (
    brn (okA a2) (
      (C109_0 a2).bind fun t1 =>
      (hR 2 t1 0).bind fun t2 =>
      (C109_0 a1).bind fun t3 =>
      (hR 2 t3 0).bind fun t4 =>
      (C110_0 t4 t2).bind fun t5 =>
      (hR 2 t5 0).bind fun t6 =>
      (hR 2 t5 1).bind fun t7 =>
      (pBin .eql false (rLen t7) (vi 0)).bind fun t8 =>
      (pWant t8 true).bind fun t9 =>
      (pG t8 true (some (rLen t6))).bind fun t10 =>
      (pG t8 true (pBin .eql false t10 (vi 0))).bind fun t11 =>
      (pPick t8 t11 (vb false)).bind fun t12 =>
      ((G 98 [t12, A.fn 115 [A.elt [cGet t0 0, cGet t0 1, cGet t0 2] 0, A.elt [A.sl 2 t7] 0, A.elt [A.sl 2 t6] 0], A.fn 117 [A.elt [cGet t0 0, cGet t0 1, cGet t0 2] 0, A.elt [A.sl 2 t6] 0, A.elt [A.sl 2 t7] 0]]).bind (fin true)).bind fun t13 =>
      some ((t13, []))) (
      none)) (
    none) :=
  (G_eq rfl Tryz.func63 rfl rfl).trans (by kernel_rfl)
theorem g64 (a0 a1 : A) : G 64 [a0, a1] =
  (pCells 3 a0).bind fun t0 =>
  (pCells 3 a1).bind fun t1 =>
  ((G 72 [A.agg [cGet t1 1, cGet t1 2]]).bind (fin false)).bind fun t2 =>
  (pUn .not t2).bind fun t3 =>
  (pBool t3).bind fun t4 =>
  brn t4 (
    some ((A.tup [A.sl 2 [], vb false], []))) (
    brn (okA (cGet t1 1)) (
      brn (okA (cGet t1 2)) (
        (pBin .eql false (cGet t1 1) (sv [61])).bind fun t5 =>
        (pBool t5).bind fun t6 =>
        brn t6 (
          L64_0 (cGet t1 2) (vi 0) (cGet t0 0) (cGet t0 1) (cGet t0 2) (cGet t1 0) (cGet t1 1) (cGet t1 2) []) (
          L64_1 (vi 0) (cGet t0 0) (cGet t0 1) (cGet t0 2) (cGet t1 0) (cGet t1 1) (cGet t1 2) [[cGet t1 1, cGet t1 2], [sv [], A.sl 2 []]] [])) (
        none)) (
      none)) :=
  (G_eq rfl Tryz.func64 rfl rfl).trans (by kernel_rfl)
theorem l64_0 (x0 x1 x2 x3 x4 x5 x6 x7 : A) (r0 : List (List A)) : L64_0 x0 x1 x2 x3 x4 x5 x6 x7 r0 =
  (pBin .lss false x1 (vi 2)).bind fun t7 =>
  (pBool t7).bind fun t8 =>
  brn t8 (
    (pIndexAddr 2 x0 x1).bind fun t9 =>
    (pAdd t9 0).bind fun t10 =>
    (pLoadP t10).bind fun t11 =>
    (pBin .neq false t11 (sv [])).bind fun t12 =>
    (pWant t12 true).bind fun t13 =>
    (pG t12 true (some x0)).bind fun t14 =>
    (pG t12 true (some x1)).bind fun t15 =>
    (pG t12 true (pIndexAddr 2 t14 t15)).bind fun t16 =>
    (pG t12 true (pLoadN 2 t16)).bind fun t17 =>
    (pG t12 true ((G 87 [A.agg [x2, x3, x4], t17]).bind (fin false))).bind fun t18 =>
    (pG t12 true (pUn .not t18)).bind fun t19 =>
    (pPick t12 t19 (vb false)).bind fun t20 =>
    (pBool t20).bind fun t21 =>
    brn t21 (
      some ((A.tup [A.sl 2 [], vb false], []))) (
      (pIndexAddr 2 x0 x1).bind fun t22 =>
      (pLoadN 2 t22).bind fun t23 =>
      (pCells 2 t23).bind fun t24 =>
      brn (pFit ((rLenN r0) + (rLenN [[cGet t24 0, cGet t24 1]])) 40) (
        (pUn .not x5).bind fun t25 =>
        (pBool t25).bind fun t26 =>
        brn t26 (
          (pIndexAddr 2 x0 x1).bind fun t27 =>
          (pLoadN 2 t27).bind fun t28 =>
          (pCells 2 t28).bind fun t29 =>
          brn (pFit ((rLenN (rApp r0 [[cGet t24 0, cGet t24 1]])) + (rLenN [[cGet t29 0, cGet t29 1]])) 40) (
            (pBin .add false x1 (vi 1)).bind fun t30 =>
            L64_0 x0 t30 x2 x3 x4 x5 x6 x7 (rApp (rApp r0 [[cGet t24 0, cGet t24 1]]) [[cGet t29 0, cGet t29 1]])) (
            none)) (
          (pBin .add false x1 (vi 1)).bind fun t31 =>
          L64_0 x0 t31 x2 x3 x4 x5 x6 x7 (rApp r0 [[cGet t24 0, cGet t24 1]]))) (
        none))) (
    some ((A.tup [A.sl 2 r0, vb true], []))) :=
  (H_eq Tryz.func64 rfl).trans (by kernel_rfl)
theorem l64_1 (x0 x1 x2 x3 x4 x5 x6 : A) (r0 r1 : List (List A)) : L64_1 x0 x1 x2 x3 x4 x5 x6 r0 r1 =
  (pBin .lss false x0 (vi 2)).bind fun t32 =>
  (pBool t32).bind fun t33 =>
  brn t33 (
    (pIx (rLenN r0) x0).bind fun t34 =>
    (pRowP r0 t34 0).bind fun t35 =>
    (pBin .neq false t35 (sv [])).bind fun t36 =>
    (pWant t36 true).bind fun t37 =>
    (pWant t36 true).bind fun t38 =>
    (pG t36 true (some x0)).bind fun t39 =>
    (pWant t36 true).bind fun t40 =>
    brn t40 (
      (pIx (rLenN r0) t39).bind fun t41 =>
      (pG t36 true (pRowN r0 t41 0 2)).bind fun t42 =>
      (pG t36 true ((G 87 [A.agg [x1, x2, x3], t42]).bind (fin false))).bind fun t43 =>
      (pG t36 true (pUn .not t43)).bind fun t44 =>
      (pPick t36 t44 (vb false)).bind fun t45 =>
      (pBool t45).bind fun t46 =>
      brn t46 (
        some ((A.tup [A.sl 2 [], vb false], []))) (
        (pIx (rLenN r0) x0).bind fun t47 =>
        (pRowN r0 t47 0 2).bind fun t48 =>
        (pCells 2 t48).bind fun t49 =>
        brn (pFit ((rLenN r1) + (rLenN [[cGet t49 0, cGet t49 1]])) 40) (
          (pUn .not x4).bind fun t50 =>
          (pBool t50).bind fun t51 =>
          brn t51 (
            (pIx (rLenN r0) x0).bind fun t52 =>
            (pRowN r0 t52 0 2).bind fun t53 =>
            (pCells 2 t53).bind fun t54 =>
            brn (pFit ((rLenN (rApp r1 [[cGet t49 0, cGet t49 1]])) + (rLenN [[cGet t54 0, cGet t54 1]])) 40) (
              (pBin .add false x0 (vi 1)).bind fun t55 =>
              L64_1 t55 x1 x2 x3 x4 x5 x6 r0 (rApp (rApp r1 [[cGet t49 0, cGet t49 1]]) [[cGet t54 0, cGet t54 1]])) (
              none)) (
            (pBin .add false x0 (vi 1)).bind fun t56 =>
            L64_1 t56 x1 x2 x3 x4 x5 x6 r0 (rApp r1 [[cGet t49 0, cGet t49 1]]))) (
          none))) (
      (pG t36 true (pLoadN 2 (A.val undef))).bind fun t57 =>
      (pG t36 true ((G 87 [A.agg [x1, x2, x3], t57]).bind (fin false))).bind fun t58 =>
      (pG t36 true (pUn .not t58)).bind fun t59 =>
      (pPick t36 t59 (vb false)).bind fun t60 =>
      (pBool t60).bind fun t61 =>
      brn t61 (
        some ((A.tup [A.sl 2 [], vb false], []))) (
        (pIx (rLenN r0) x0).bind fun t62 =>
        (pRowN r0 t62 0 2).bind fun t63 =>
        (pCells 2 t63).bind fun t64 =>
        brn (pFit ((rLenN r1) + (rLenN [[cGet t64 0, cGet t64 1]])) 40) (
          (pUn .not x4).bind fun t65 =>
          (pBool t65).bind fun t66 =>
          brn t66 (
            (pIx (rLenN r0) x0).bind fun t67 =>
            (pRowN r0 t67 0 2).bind fun t68 =>
            (pCells 2 t68).bind fun t69 =>
            brn (pFit ((rLenN (rApp r1 [[cGet t64 0, cGet t64 1]])) + (rLenN [[cGet t69 0, cGet t69 1]])) 40) (
              (pBin .add false x0 (vi 1)).bind fun t70 =>
              L64_1 t70 x1 x2 x3 x4 x5 x6 r0 (rApp (rApp r1 [[cGet t64 0, cGet t64 1]]) [[cGet t69 0, cGet t69 1]])) (
              none)) (
            (pBin .add false x0 (vi 1)).bind fun t71 =>
            L64_1 t71 x1 x2 x3 x4 x5 x6 r0 (rApp r1 [[cGet t64 0, cGet t64 1]]))) (
          none)))) (
    some ((A.tup [A.sl 2 r1, vb true], []))) :=
  (H_eq Tryz.func64 rfl).trans (by kernel_rfl)
theorem g65 (a0 a1 a2 : A) : G 65 [a0, a1, a2] =
  (pCells 3 a0).bind fun t0 =>
  (pCells 3 a1).bind fun t1 =>
  (pCells 3 a2).bind fun t2 =>
  ((G 118 [A.agg [cGet t1 0, cGet t1 1, cGet t1 2]]).bind (fin false)).bind fun t3 =>
  ((G 118 [A.agg [cGet t2 0, cGet t2 1, cGet t2 2]]).bind (fin false)).bind fun t4 =>
  ((G 63 [A.agg [cGet t0 0, cGet t0 1, cGet t0 2], t3, t4]).bind (fin false)).bind fun t5 =>
  some ((t5, [])) :=
  (G_eq rfl Tryz.func65 rfl rfl).trans (by kernel_rfl)
theorem g72 (a0 : A) : G 72 [a0] =
  (pCells 2 a0).bind fun t0 =>
  (pBin .eql false (cGet t0 0) (sv [61])).bind fun t1 =>
  (pBool t1).bind fun t2 =>
  brn t2 (
    (pLenL (cGet t0 1)).bind fun t3 =>
    (pBin .eql false t3 (vi 2)).bind fun t4 =>
    (pWant t4 true).bind fun t5 =>
    (pG t4 true ((G 122 [A.agg [cGet t0 0, cGet t0 1]]).bind (fin false))).bind fun t6 =>
    (pPick t4 t6 (vb false)).bind fun t7 =>
    (pWant t7 true).bind fun t8 =>
    (pG t7 true (some (cGet t0 1))).bind fun t9 =>
    (pG t7 true (pIndexAddr 2 t9 (vi 0))).bind fun t10 =>
    (pG t7 true (pLoadN 2 t10)).bind fun t11 =>
    (pG t7 true ((G 123 [t11]).bind (fin false))).bind fun t12 =>
    (pPick t7 t12 (vb false)).bind fun t13 =>
    (pWant t13 true).bind fun t14 =>
    (pG t13 true (some (cGet t0 1))).bind fun t15 =>
    (pG t13 true (pIndexAddr 2 t15 (vi 1))).bind fun t16 =>
    (pG t13 true (pLoadN 2 t16)).bind fun t17 =>
    (pG t13 true ((G 123 [t17]).bind (fin false))).bind fun t18 =>
    (pPick t13 t18 (vb false)).bind fun t19 =>
    some ((t19, []))) (
    ((G 85 [cGet t0 0]).bind (fin false)).bind fun t20 =>
    (pWant t20 true).bind fun t21 =>
    (pG t20 true ((G 79 [A.agg [cGet t0 0, cGet t0 1]]).bind (fin false))).bind fun t22 =>
    (pPick t20 t22 (vb false)).bind fun t23 =>
    some ((t23, []))) :=
  (G_eq rfl Tryz.func72 rfl rfl).trans (by kernel_rfl)
theorem g75 (a0 a1 : A) : G 75 [a0, a1] =
  (pCells 2 a0).bind fun t0 =>
  (pCells 2 a1).bind fun t1 =>
  (pBin .neq false (cGet t0 0) (cGet t1 0)).bind fun t2 =>
  (pWant t2 false).bind fun t3 =>
  (pG t2 false (some (cGet t0 1))).bind fun t4 =>
  (pG t2 false (pLenL t4)).bind fun t5 =>
  (pWant t2 false).bind fun t6 =>
  (pG t2 false (some (cGet t1 1))).bind fun t7 =>
  (pG t2 false (pLenL t7)).bind fun t8 =>
  (pG t2 false (pBin .neq false t5 t8)).bind fun t9 =>
  (pPick t2 (vb true) t9).bind fun t10 =>
  (pBool t10).bind fun t11 =>
  brn t11 (
    some ((vb false, []))) (
    L75_0 (vi 0) (cGet t0 0) (cGet t0 1) (cGet t1 0) (cGet t1 1)) :=
  (G_eq rfl Tryz.func75 rfl rfl).trans (by kernel_rfl)
theorem l75_0 (x0 x1 x2 x3 x4 : A) : L75_0 x0 x1 x2 x3 x4 =
  (pLenL x2).bind fun t12 =>
  (pBin .lss false x0 t12).bind fun t13 =>
  (pBool t13).bind fun t14 =>
  brn t14 (
    (pIndexAddr 2 x2 x0).bind fun t15 =>
    (pLoadN 2 t15).bind fun t16 =>
    (pIndexAddr 2 x4 x0).bind fun t17 =>
    (pLoadN 2 t17).bind fun t18 =>
    ((G 75 [t16, t18]).bind (fin false)).bind fun t19 =>
    (pUn .not t19).bind fun t20 =>
    (pBool t20).bind fun t21 =>
    brn t21 (
      some ((vb false, []))) (
      (pBin .add false x0 (vi 1)).bind fun t22 =>
      L75_0 t22 x1 x2 x3 x4)) (
    some ((vb true, []))) :=
  (H_eq Tryz.func75 rfl).trans (by kernel_rfl)
theorem g76 (a0 : A) : G 76 [a0] =
  (pCells 2 a0).bind fun t0 =>
  ((G 52 [A.agg [cGet t0 0, cGet t0 1]]).bind (fin false)).bind fun t1 =>
  (pBool t1).bind fun t2 =>
  brn t2 (
    (pLenL (cGet t0 1)).bind fun t3 =>
    (pBin .eql false t3 (vi 2)).bind fun t4 =>
    (pWant t4 true).bind fun t5 =>
    (pG t4 true ((G 126 [A.agg [cGet t0 0, cGet t0 1]]).bind (fin false))).bind fun t6 =>
    (pPick t4 t6 (vb false)).bind fun t7 =>
    (pWant t7 true).bind fun t8 =>
    (pG t7 true (some (cGet t0 1))).bind fun t9 =>
    (pG t7 true (pIndexAddr 2 t9 (vi 0))).bind fun t10 =>
    (pG t7 true (pLoadN 2 t10)).bind fun t11 =>
    (pG t7 true ((G 127 [t11]).bind (fin false))).bind fun t12 =>
    (pPick t7 t12 (vb false)).bind fun t13 =>
    (pWant t13 true).bind fun t14 =>
    (pG t13 true (some (cGet t0 1))).bind fun t15 =>
    (pG t13 true (pIndexAddr 2 t15 (vi 1))).bind fun t16 =>
    (pG t13 true (pLoadN 2 t16)).bind fun t17 =>
    (pG t13 true ((G 127 [t17]).bind (fin false))).bind fun t18 =>
    (pPick t13 t18 (vb false)).bind fun t19 =>
    some ((t19, []))) (
    ((G 94 [cGet t0 0]).bind (fin false)).bind fun t20 =>
    (pWant t20 true).bind fun t21 =>
    (pG t20 true ((G 108 [A.agg [cGet t0 0, cGet t0 1]]).bind (fin false))).bind fun t22 =>
    (pPick t20 t22 (vb false)).bind fun t23 =>
    some ((t23, []))) :=
  (G_eq rfl Tryz.func76 rfl rfl).trans (by kernel_rfl)
theorem g77 (a0 a1 : A) : G 77 [a0, a1] =
  (pCells 2 a0).bind fun t0 =>
  (pCells 2 a1).bind fun t1 =>
  (pBin .eql false (cGet t0 0) (cGet t1 0)).bind fun t2 =>
  (pWant t2 true).bind fun t3 =>
  (pG t2 true (some (cGet t0 1))).bind fun t4 =>
  (pWant t2 true).bind fun t5 =>
  (pG t2 true (some (cGet t1 1))).bind fun t6 =>
  (pG t2 true ((G 128 [t4, t6, A.fn 77 []]).bind (fin false))).bind fun t7 =>
  (pPick t2 t7 (vb false)).bind fun t8 =>
  some ((t8, [])) :=
  (G_eq rfl Tryz.func77 rfl rfl).trans (by kernel_rfl)
theorem g79 (a0 : A) : G 79 [a0] =
  (pCells 2 a0).bind fun t0 =>
  ((G 122 [A.agg [cGet t0 0, cGet t0 1]]).bind (fin false)).bind fun t1 =>
  (pWant t1 true).bind fun t2 =>
  (pG t1 true ((G 123 [A.agg [cGet t0 0, cGet t0 1]]).bind (fin false))).bind fun t3 =>
  (pPick t1 t3 (vb false)).bind fun t4 =>
  some ((t4, [])) :=
  (G_eq rfl Tryz.func79 rfl rfl).trans (by kernel_rfl)
theorem g84 (a0 a1 a2 : A) : G 84 [a0, a1, a2] =
  (pBin .geq false a0 a1).bind fun t0 =>
  (pG t0 true (some a0)).bind fun t1 =>
  (pG t0 true (some a2)).bind fun t2 =>
  (pG t0 true (pBin .leq false t1 t2)).bind fun t3 =>
  (pPick t0 t3 (vb false)).bind fun t4 =>
  some ((t4, [])) :=
  (G_eq rfl Tryz.func84 rfl rfl).trans (by kernel_rfl)
theorem g85 (a0 : A) : G 85 [a0] =
  (pLenS a0).bind fun t0 =>
  ((G 84 [t0, vi 1, vi 6]).bind (fin false)).bind fun t1 =>
  (pUn .not t1).bind fun t2 =>
  (pG t2 false (some a0)).bind fun t3 =>
  (pG t2 false (pIndexS t3 (vi 0))).bind fun t4 =>
  (pG t2 false (pBin .lss false t4 (vy 97))).bind fun t5 =>
  (pPick t2 (vb true) t5).bind fun t6 =>
  (pG t6 false (some a0)).bind fun t7 =>
  (pG t6 false (pIndexS t7 (vi 0))).bind fun t8 =>
  (pG t6 false (pBin .gtr false t8 (vy 122))).bind fun t9 =>
  (pPick t6 (vb true) t9).bind fun t10 =>
  (pBool t10).bind fun t11 =>
  brn t11 (
    some ((vb false, []))) (
    (pBin .eql false a0 (sv [116, 114, 117, 101])).bind fun t12 =>
    (pBool t12).bind fun t13 =>
    brn t13 (
      (pBool t12).bind fun t14 =>
      brn t14 (
        some ((vb false, []))) (
        L85_0 a0 (vi 1))) (
      (pBin .eql false a0 (sv [102, 97, 108, 115, 101])).bind fun t15 =>
      (pBool t15).bind fun t16 =>
      brn t16 (
        (pBool t15).bind fun t17 =>
        brn t17 (
          some ((vb false, []))) (
          L85_0 a0 (vi 1))) (
        (pBin .eql false a0 (sv [116, 114, 117, 116, 104])).bind fun t18 =>
        (pBool t18).bind fun t19 =>
        brn t19 (
          (pBool t18).bind fun t20 =>
          brn t20 (
            some ((vb false, []))) (
            L85_0 a0 (vi 1))) (
          (pBin .eql false a0 (sv [98, 111, 116, 104])).bind fun t21 =>
          (pBool t21).bind fun t22 =>
          brn t22 (
            (pBool t21).bind fun t23 =>
            brn t23 (
              some ((vb false, []))) (
              L85_0 a0 (vi 1))) (
            (pBin .eql false a0 (sv [101, 105, 116, 104, 101, 114])).bind fun t24 =>
            (pBool t24).bind fun t25 =>
            brn t25 (
              (pBool t24).bind fun t26 =>
              brn t26 (
                some ((vb false, []))) (
                L85_0 a0 (vi 1))) (
              (pBin .eql false a0 (sv [105, 102])).bind fun t27 =>
              (pBool t27).bind fun t28 =>
              brn t28 (
                (pBool t27).bind fun t29 =>
                brn t29 (
                  some ((vb false, []))) (
                  L85_0 a0 (vi 1))) (
                (pBin .eql false a0 (sv [97, 108, 108])).bind fun t30 =>
                (pBool t30).bind fun t31 =>
                brn t31 (
                  (pBool t30).bind fun t32 =>
                  brn t32 (
                    some ((vb false, []))) (
                    L85_0 a0 (vi 1))) (
                  (pBin .eql false a0 (sv [115, 111, 109, 101])).bind fun t33 =>
                  (pBool t33).bind fun t34 =>
                  brn t34 (
                    some ((vb false, []))) (
                    L85_0 a0 (vi 1)))))))))) :=
  (G_eq rfl Tryz.func85 rfl rfl).trans (by kernel_rfl)
theorem l85_0 (x0 x1 : A) : L85_0 x0 x1 =
  (pLenS x0).bind fun t35 =>
  (pBin .lss false x1 t35).bind fun t36 =>
  (pBool t36).bind fun t37 =>
  brn t37 (
    (pIndexS x0 x1).bind fun t38 =>
    ((G 132 [t38]).bind (fin false)).bind fun t39 =>
    (pUn .not t39).bind fun t40 =>
    (pG t40 true (some x0)).bind fun t41 =>
    (pG t40 true (some x1)).bind fun t42 =>
    (pG t40 true (pIndexS t41 t42)).bind fun t43 =>
    (pG t40 true (pBin .neq false t43 (vy 95))).bind fun t44 =>
    (pPick t40 t44 (vb false)).bind fun t45 =>
    (pBool t45).bind fun t46 =>
    brn t46 (
      some ((vb false, []))) (
      (pBin .add false x1 (vi 1)).bind fun t47 =>
      L85_0 x0 t47)) (
    some ((vb true, []))) :=
  (H_eq Tryz.func85 rfl).trans (by kernel_rfl)
theorem g86 (a0 a1 : A) : G 86 [a0, a1] =
  L86_0 a0 a1 (vi 0) :=
  (G_eq rfl Tryz.func86 rfl rfl).trans (by kernel_rfl)
theorem l86_0 (x0 x1 x2 : A) : L86_0 x0 x1 x2 =
  (pLenL x0).bind fun t0 =>
  (pBin .lss false x2 t0).bind fun t1 =>
  (pBool t1).bind fun t2 =>
  brn t2 (
    (pIndexAddr 1 x0 x2).bind fun t3 =>
    (pLoadP t3).bind fun t4 =>
    (pBin .eql false t4 x1).bind fun t5 =>
    (pBool t5).bind fun t6 =>
    brn t6 (
      some ((vb true, []))) (
      (pBin .add false x2 (vi 1)).bind fun t7 =>
      L86_0 x0 x1 t7)) (
    some ((vb false, []))) :=
  (H_eq Tryz.func86 rfl).trans (by kernel_rfl)
theorem g87 (a0 a1 : A) : G 87 [a0, a1] =
  (pCells 3 a0).bind fun t0 =>
  (pCells 2 a1).bind fun t1 =>
  ((G 90 [cGet t1 0]).bind (fin false)).bind fun t2 =>
  (pUn .not t2).bind fun t3 =>
  (pWant t3 true).bind fun t4 =>
  (pWant t3 true).bind fun t5 =>
  (pG t3 true (some (cGet t1 0))).bind fun t6 =>
  (pG t3 true ((G 133 [A.agg [cGet t0 0, cGet t0 1, cGet t0 2], t6]).bind (fin false))).bind fun t7 =>
  (pG t3 true (pBin .lss false t7 (vi 0))).bind fun t8 =>
  (pPick t3 t8 (vb false)).bind fun t9 =>
  (pBool t9).bind fun t10 =>
  brn t10 (
    some ((vb false, []))) (
    L87_0 (vi 0) (cGet t0 0) (cGet t0 1) (cGet t0 2) (cGet t1 0) (cGet t1 1)) :=
  (G_eq rfl Tryz.func87 rfl rfl).trans (by kernel_rfl)
theorem l87_0 (x0 x1 x2 x3 x4 x5 : A) : L87_0 x0 x1 x2 x3 x4 x5 =
  (pLenL x5).bind fun t11 =>
  (pBin .lss false x0 t11).bind fun t12 =>
  (pBool t12).bind fun t13 =>
  brn t13 (
    (pIndexAddr 2 x5 x0).bind fun t14 =>
    (pLoadN 2 t14).bind fun t15 =>
    ((G 87 [A.agg [x1, x2, x3], t15]).bind (fin false)).bind fun t16 =>
    (pUn .not t16).bind fun t17 =>
    (pBool t17).bind fun t18 =>
    brn t18 (
      some ((vb false, []))) (
      (pBin .add false x0 (vi 1)).bind fun t19 =>
      L87_0 t19 x1 x2 x3 x4 x5)) (
    some ((vb true, []))) :=
  (H_eq Tryz.func87 rfl).trans (by kernel_rfl)
theorem g88 (a0 a1 : A) : G 88 [a0, a1] =
  (pCells 2 a0).bind fun t0 =>
  (pCells 2 a1).bind fun t1 =>
  ((G 134 [A.agg [cGet t1 0, cGet t1 1]]).bind (fin false)).bind fun t2 =>
  L88_0 t2 (vi 0) (cGet t0 0) (cGet t0 1) (cGet t1 0) (cGet t1 1) :=
  (G_eq rfl Tryz.func88 rfl rfl).trans (by kernel_rfl)
theorem l88_0 (x0 x1 x2 x3 x4 x5 : A) : L88_0 x0 x1 x2 x3 x4 x5 =
  (pLenL x0).bind fun t3 =>
  (pBin .lss false x1 t3).bind fun t4 =>
  (pBool t4).bind fun t5 =>
  brn t5 (
    (pIndexAddr 1 x0 x1).bind fun t6 =>
    (pLoadP t6).bind fun t7 =>
    ((G 135 [A.agg [x2, x3], t7]).bind (fin false)).bind fun t8 =>
    (pIndexAddr 1 x0 x1).bind fun t9 =>
    (pLoadP t9).bind fun t10 =>
    ((G 135 [A.agg [x4, x5], t10]).bind (fin false)).bind fun t11 =>
    (pBin .lss false t8 t11).bind fun t12 =>
    (pBool t12).bind fun t13 =>
    brn t13 (
      some ((vb false, []))) (
      (pBin .add false x1 (vi 1)).bind fun t14 =>
      L88_0 x0 t14 x2 x3 x4 x5)) (
    some ((vb true, []))) :=
  (H_eq Tryz.func88 rfl).trans (by kernel_rfl)
theorem g89 (a0 a1 : A) : G 89 [a0, a1] =
  (pCells 3 a0).bind fun t0 =>
  (pCells 2 a1).bind fun t1 =>
  ((G 90 [cGet t1 0]).bind (fin false)).bind fun t2 =>
  (pUn .not t2).bind fun t3 =>
  (pBool t3).bind fun t4 =>
  brn t4 (
    ((G 133 [A.agg [cGet t0 0, cGet t0 1, cGet t0 2], cGet t1 0]).bind (fin false)).bind fun t5 =>
    (pIndexAddr 1 (cGet t0 1) t5).bind fun t6 =>
    (pLoadP t6).bind fun t7 =>
    L89_0 t7 (vi 0) (cGet t0 0) (cGet t0 1) (cGet t0 2) (cGet t1 0) (cGet t1 1)) (
    L89_0 (cGet t0 2) (vi 0) (cGet t0 0) (cGet t0 1) (cGet t0 2) (cGet t1 0) (cGet t1 1)) :=
  (G_eq rfl Tryz.func89 rfl rfl).trans (by kernel_rfl)
theorem l89_0 (x0 x1 x2 x3 x4 x5 x6 : A) : L89_0 x0 x1 x2 x3 x4 x5 x6 =
  (pLenL x6).bind fun t8 =>
  (pBin .lss false x1 t8).bind fun t9 =>
  (pBool t9).bind fun t10 =>
  brn t10 (
    (pIndexAddr 2 x6 x1).bind fun t11 =>
    (pLoadN 2 t11).bind fun t12 =>
    ((G 89 [A.agg [x2, x3, x4], t12]).bind (fin false)).bind fun t13 =>
    (pBin .add false x0 t13).bind fun t14 =>
    (pBin .add false x1 (vi 1)).bind fun t15 =>
    L89_0 t14 t15 x2 x3 x4 x5 x6) (
    some ((x0, []))) :=
  (H_eq Tryz.func89 rfl).trans (by kernel_rfl)
theorem g90 (a0 : A) : G 90 [a0] =
  (pLenS a0).bind fun t0 =>
  ((G 84 [t0, vi 1, vi 4]).bind (fin false)).bind fun t1 =>
  (pUn .not t1).bind fun t2 =>
  (pG t2 false (some a0)).bind fun t3 =>
  (pG t2 false (pIndexS t3 (vi 0))).bind fun t4 =>
  (pG t2 false (pBin .lss false t4 (vy 65))).bind fun t5 =>
  (pPick t2 (vb true) t5).bind fun t6 =>
  (pG t6 false (some a0)).bind fun t7 =>
  (pG t6 false (pIndexS t7 (vi 0))).bind fun t8 =>
  (pG t6 false (pBin .gtr false t8 (vy 90))).bind fun t9 =>
  (pPick t6 (vb true) t9).bind fun t10 =>
  (pBool t10).bind fun t11 =>
  brn t11 (
    some ((vb false, []))) (
    L90_0 a0 (vi 1)) :=
  (G_eq rfl Tryz.func90 rfl rfl).trans (by kernel_rfl)
theorem l90_0 (x0 x1 : A) : L90_0 x0 x1 =
  (pLenS x0).bind fun t12 =>
  (pBin .lss false x1 t12).bind fun t13 =>
  (pBool t13).bind fun t14 =>
  brn t14 (
    (pIndexS x0 x1).bind fun t15 =>
    ((G 132 [t15]).bind (fin false)).bind fun t16 =>
    (pUn .not t16).bind fun t17 =>
    (pBool t17).bind fun t18 =>
    brn t18 (
      some ((vb false, []))) (
      (pBin .add false x1 (vi 1)).bind fun t19 =>
      L90_0 x0 t19)) (
    some ((vb true, []))) :=
  (H_eq Tryz.func90 rfl).trans (by kernel_rfl)
theorem g91 (a0 a1 a2 : A) : G 91 [a0, a1, a2] =
  (pCells 3 a0).bind fun t0 =>
  (pCells 2 a1).bind fun t1 =>
  (pCells 2 a2).bind fun t2 =>
  ((G 133 [A.agg [cGet t0 0, cGet t0 1, cGet t0 2], cGet t1 0]).bind (fin false)).bind fun t3 =>
  ((G 133 [A.agg [cGet t0 0, cGet t0 1, cGet t0 2], cGet t2 0]).bind (fin false)).bind fun t4 =>
  (pBin .eql false t3 t4).bind fun t5 =>
  (pBool t5).bind fun t6 =>
  brn t6 (
    (pLenL (cGet t1 1)).bind fun t7 =>
    (pLenL (cGet t2 1)).bind fun t8 =>
    (pBin .lss false t7 t8).bind fun t9 =>
    (pBool t9).bind fun t10 =>
    brn t10 (
      some ((vi (-1), []))) (
      (pBin .gtr false t7 t8).bind fun t11 =>
      (pBool t11).bind fun t12 =>
      brn t12 (
        some ((vi 1, []))) (
        some ((vi 0, []))))) (
    (pBin .lss false t3 t4).bind fun t13 =>
    (pBool t13).bind fun t14 =>
    brn t14 (
      some ((vi (-1), []))) (
      (pBin .gtr false t3 t4).bind fun t15 =>
      (pBool t15).bind fun t16 =>
      brn t16 (
        some ((vi 1, []))) (
        some ((vi 0, []))))) :=
  (G_eq rfl Tryz.func91 rfl rfl).trans (by kernel_rfl)
theorem g92 (a0 a1 : A) : G 92 [a0, a1] =
  (pCells 2 a0).bind fun t0 =>
  (pCells 2 a1).bind fun t1 =>
  L92_0 (vi 0) (cGet t0 0) (cGet t0 1) (cGet t1 0) (cGet t1 1) :=
  (G_eq rfl Tryz.func92 rfl rfl).trans (by kernel_rfl)
theorem l92_0 (x0 x1 x2 x3 x4 : A) : L92_0 x0 x1 x2 x3 x4 =
  (pLenL x2).bind fun t2 =>
  (pBin .lss false x0 t2).bind fun t3 =>
  (pBool t3).bind fun t4 =>
  brn t4 (
    (pIndexAddr 2 x2 x0).bind fun t5 =>
    (pLoadN 2 t5).bind fun t6 =>
    (pIndexAddr 2 x4 x0).bind fun t7 =>
    (pLoadN 2 t7).bind fun t8 =>
    ((G 75 [t6, t8]).bind (fin false)).bind fun t9 =>
    (pUn .not t9).bind fun t10 =>
    (pBool t10).bind fun t11 =>
    brn t11 (
      some ((x0, []))) (
      (pBin .add false x0 (vi 1)).bind fun t12 =>
      L92_0 t12 x1 x2 x3 x4)) (
    some ((vi (-1), []))) :=
  (H_eq Tryz.func92 rfl).trans (by kernel_rfl)
theorem g93 (a0 a1 a2 : A) : G 93 [a0, a1, a2] =
  (pBin .geq false a0 a1).bind fun t0 =>
  (pG t0 true (some a0)).bind fun t1 =>
  (pG t0 true (some a2)).bind fun t2 =>
  (pG t0 true (pBin .leq false t1 t2)).bind fun t3 =>
  (pPick t0 t3 (vb false)).bind fun t4 =>
  some ((t4, [])) :=
  (G_eq rfl Tryz.func93 rfl rfl).trans (by kernel_rfl)
theorem g94 (a0 : A) : G 94 [a0] =
  (pLenS a0).bind fun t0 =>
  L94_0 a0 t0 (vi 0) :=
  (G_eq rfl Tryz.func94 rfl rfl).trans (by kernel_rfl)
theorem l94_0 (x0 x1 x2 : A) : L94_0 x0 x1 x2 =
  (pBin .lss false x2 x1).bind fun t1 =>
  (pBool t1).bind fun t2 =>
  brn t2 (
    (pBin .eql false x2 (vi 0)).bind fun t3 =>
    (pG t3 true (some x0)).bind fun t4 =>
    (pG t3 true (some x2)).bind fun t5 =>
    (pG t3 true (pIndexS t4 t5)).bind fun t6 =>
    (pG t3 true ((G 136 [t6]).bind (fin false))).bind fun t7 =>
    (pG t3 true (pUn .not t7)).bind fun t8 =>
    (pPick t3 t8 (vb false)).bind fun t9 =>
    (pG t9 false (some x0)).bind fun t10 =>
    (pG t9 false (some x2)).bind fun t11 =>
    (pG t9 false (pIndexS t10 t11)).bind fun t12 =>
    (pG t9 false ((G 136 [t12]).bind (fin false))).bind fun t13 =>
    (pG t9 false (pUn .not t13)).bind fun t14 =>
    (pG t9 false (some t14)).bind fun t15 =>
    (pG t15 true (some x0)).bind fun t16 =>
    (pG t15 true (some x2)).bind fun t17 =>
    (pG t15 true (pIndexS t16 t17)).bind fun t18 =>
    (pG t15 true ((G 137 [t18]).bind (fin false))).bind fun t19 =>
    (pG t15 true (pUn .not t19)).bind fun t20 =>
    (pG t9 false (pPick t15 t20 (vb false))).bind fun t21 =>
    (pG t9 false (some t21)).bind fun t22 =>
    (pG t22 true (some x0)).bind fun t23 =>
    (pG t22 true (some x2)).bind fun t24 =>
    (pG t22 true (pIndexS t23 t24)).bind fun t25 =>
    (pG t22 true (pBin .neq false t25 (vy 95))).bind fun t26 =>
    (pG t9 false (pPick t22 t26 (vb false))).bind fun t27 =>
    (pPick t9 (vb true) t27).bind fun t28 =>
    (pBool t28).bind fun t29 =>
    brn t29 (
      some ((vb false, []))) (
      (pBin .add false x2 (vi 1)).bind fun t30 =>
      L94_0 x0 x1 t30)) (
    (pLenS x0).bind fun t31 =>
    ((G 93 [t31, vi 1, vi 6]).bind (fin false)).bind fun t32 =>
    (pG t32 true ((G 138 []).bind (fin false))).bind fun t33 =>
    (pG t32 true (some x0)).bind fun t34 =>
    (pG t32 true ((G 95 [t33, t34]).bind (fin false))).bind fun t35 =>
    (pG t32 true (pUn .not t35)).bind fun t36 =>
    (pPick t32 t36 (vb false)).bind fun t37 =>
    some ((t37, []))) :=
  (H_eq Tryz.func94 rfl).trans (by kernel_rfl)
theorem g95 (a0 a1 : A) : G 95 [a0, a1] =
  ((G 139 [a0, a1]).bind (fin false)).bind fun t0 =>
  (pBin .geq false t0 (vi 0)).bind fun t1 =>
  some ((t1, [])) :=
  (G_eq rfl Tryz.func95 rfl rfl).trans (by kernel_rfl)
theorem g96 (a0 a1 : A) : G 96 [a0, a1] =
  (pCells 3 a0).bind fun t0 =>
  (pCells 2 a1).bind fun t1 =>
  ((G 140 [A.agg [cGet t1 0, cGet t1 1]]).bind (fin false)).bind fun t2 =>
  (pWant t2 false).bind fun t3 =>
  (pG t2 false (some (cGet t0 0))).bind fun t4 =>
  (pWant t2 false).bind fun t5 =>
  (pG t2 false (some (cGet t1 0))).bind fun t6 =>
  (pG t2 false ((G 95 [t4, t6]).bind (fin false))).bind fun t7 =>
  (pPick t2 (vb true) t7).bind fun t8 =>
  (pWant t8 true).bind fun t9 =>
  (pG t8 true (some (cGet t1 1))).bind fun t10 =>
  (pWant t8 true).bind fun t11 =>
  (pG t8 true ((G 106 [t10, A.fn 141 [A.elt [cGet t0 0, cGet t0 1, cGet t0 2] 0]]).bind (fin true))).bind fun t12 =>
  (pG t8 true (pUn .not t12)).bind fun t13 =>
  (pPick t8 t13 (vb false)).bind fun t14 =>
  some ((t14, [])) :=
  (G_eq rfl Tryz.func96 rfl rfl).trans (by kernel_rfl)
theorem g98 (a0 a1 a2 : A) : G 98 [a0, a1, a2] =
  (pBool a0).bind fun t0 =>
  brn t0 (
    some ((vi 1, []))) (
    (DX.run K (MM K) (.callc a1 [] false)).bind fun t1 =>
    (pBool t1).bind fun t2 =>
    brn t2 (
      some ((vi 2, []))) (
      (DX.run K (MM K) (.callc a2 [] false)).bind fun t3 =>
      (pBool t3).bind fun t4 =>
      brn t4 (
        some ((vi 3, []))) (
        some ((vi 0, []))))) :=
  (G_eq rfl Tryz.func98 rfl rfl).trans (by kernel_rfl)
theorem g99 (a0 a1 a2 : A) : G 99 [a0, a1, a2] =
  (pLoadN 3 a0).bind fun t0 =>
  (pLoadN 2 a1).bind fun t1 =>
  (pLoadN 2 a2).bind fun t2 =>
  ((G 100 [t0, t1, t2]).bind (fin false)).bind fun t3 =>
  some ((t3, [])) :=
  (G_eq rfl Tryz.func99 rfl rfl).trans (by kernel_rfl)
theorem g100 (a0 a1 a2 : A) : G 100 [a0, a1, a2] =
  (pCells 3 a0).bind fun t0 =>
  (pCells 2 a1).bind fun t1 =>
  (pCells 2 a2).bind fun t2 =>
  ((G 142 [A.agg [cGet t2 0, cGet t2 1]]).bind (fin false)).bind fun t3 =>
  (pLenL t3).bind fun t4 =>
  L100_0 t3 t4 (vi 0) (cGet t0 0) (cGet t0 1) (cGet t0 2) (cGet t1 0) (cGet t1 1) (cGet t2 0) (cGet t2 1) :=
  (G_eq rfl Tryz.func100 rfl rfl).trans (by kernel_rfl)
theorem l100_0 (x0 x1 x2 x3 x4 x5 x6 x7 x8 x9 : A) : L100_0 x0 x1 x2 x3 x4 x5 x6 x7 x8 x9 =
  (pBin .lss false x2 x1).bind fun t5 =>
  (pBool t5).bind fun t6 =>
  brn t6 (
    (pIndexAddr 1 x0 x2).bind fun t7 =>
    (pLoadP t7).bind fun t8 =>
    ((G 143 [A.agg [x6, x7], t8]).bind (fin false)).bind fun t9 =>
    ((G 143 [A.agg [x8, x9], t8]).bind (fin false)).bind fun t10 =>
    (pBin .lss false t9 t10).bind fun t11 =>
    (pBool t11).bind fun t12 =>
    brn t12 (
      some ((vb false, []))) (
      (pBin .add false x2 (vi 1)).bind fun t13 =>
      L100_0 x0 x1 t13 x3 x4 x5 x6 x7 x8 x9)) (
    ((G 144 [A.agg [x3, x4, x5], A.agg [x6, x7]]).bind (fin false)).bind fun t14 =>
    ((G 144 [A.agg [x3, x4, x5], A.agg [x8, x9]]).bind (fin false)).bind fun t15 =>
    (pBin .neq false t14 t15).bind fun t16 =>
    (pWant t16 false).bind fun t17 =>
    (pG t16 false ((G 140 [A.agg [x6, x7]]).bind (fin false))).bind fun t18 =>
    (pPick t16 (vb true) t18).bind fun t19 =>
    (pWant t19 false).bind fun t20 =>
    (pG t19 false ((G 140 [A.agg [x8, x9]]).bind (fin false))).bind fun t21 =>
    (pPick t19 (vb true) t21).bind fun t22 =>
    (pBool t22).bind fun t23 =>
    brn t23 (
      (pBin .gtr false t14 t15).bind fun t24 =>
      some ((t24, []))) (
      ((G 145 [A.agg [x3, x4, x5], A.agg [x8, x9], A.agg [x6, x7]]).bind (fin false)).bind fun t25 =>
      (pBool t25).bind fun t26 =>
      brn t26 (
        some ((vb true, []))) (
        ((G 146 [A.agg [x6, x7], A.agg [x8, x9]]).bind (fin false)).bind fun t27 =>
        (pTup t27 0).bind fun t28 =>
        (pTup t27 1).bind fun t29 =>
        (pTup t27 2).bind fun t30 =>
        (pCells 2 t28).bind fun t31 =>
        (pCells 2 t29).bind fun t32 =>
        (pWant t30 true).bind fun t33 =>
        (pWant t30 true).bind fun t34 =>
        (pWant t30 true).bind fun t35 =>
        (pG t30 true ((G 100 [A.agg [x3, x4, x5], A.agg [cGet t31 0, cGet t31 1], A.agg [cGet t32 0, cGet t32 1]]).bind (fin false))).bind fun t36 =>
        (pPick t30 t36 (vb false)).bind fun t37 =>
        some ((t37, []))))) :=
  (H_eq Tryz.func100 rfl).trans (by kernel_rfl)
theorem g101 (a0 a1 a2 : A) : G 101 [a0, a1, a2] =
  (pLoadN 3 a0).bind fun t0 =>
  (pLoadN 2 a1).bind fun t1 =>
  (pLoadN 2 a2).bind fun t2 =>
  ((G 100 [t0, t1, t2]).bind (fin false)).bind fun t3 =>
  some ((t3, [])) :=
  (G_eq rfl Tryz.func101 rfl rfl).trans (by kernel_rfl)
theorem g102 (a0 a1 : A) : G 102 [a0, a1] =
  (pCells 3 a0).bind fun t0 =>
  (pCells 2 a1).bind fun t1 =>
  ((G 79 [A.agg [cGet t1 0, cGet t1 1]]).bind (fin false)).bind fun t2 =>
  (pWant t2 true).bind fun t3 =>
  (pWant t2 true).bind fun t4 =>
  (pG t2 true ((G 87 [A.agg [cGet t0 0, cGet t0 1, cGet t0 2], A.agg [cGet t1 0, cGet t1 1]]).bind (fin false))).bind fun t5 =>
  (pPick t2 t5 (vb false)).bind fun t6 =>
  some ((t6, [])) :=
  (G_eq rfl Tryz.func102 rfl rfl).trans (by kernel_rfl)
theorem g103 (a0 a1 : A) : G 103 [a0, a1] =
  (pLenL a1).bind fun t0 =>
  (pMake 1 t0 t0).bind fun t1 =>
  L103_0 a0 a1 (vi 0) (rRep t1 [vb false]) [] :=
  (G_eq rfl Tryz.func103 rfl rfl).trans (by kernel_rfl)
theorem l103_0 (x0 x1 x2 : A) (r0 r1 : List (List A)) : L103_0 x0 x1 x2 r0 r1 =
  (pLenL x0).bind fun t2 =>
  (pBin .lss false x2 t2).bind fun t3 =>
  (pBool t3).bind fun t4 =>
  brn t4 (
    L103_1 x0 x1 x2 (vi (-1)) (vi 0) r0 r1) (
    some ((A.sl 2 r1, []))) :=
  (H_eq Tryz.func103 rfl).trans (by kernel_rfl)
theorem l103_1 (x0 x1 x2 x3 x4 : A) (r0 r1 : List (List A)) : L103_1 x0 x1 x2 x3 x4 r0 r1 =
  (pLenL x1).bind fun t5 =>
  (pBin .lss false x4 t5).bind fun t6 =>
  (pG t6 true (some x3)).bind fun t7 =>
  (pG t6 true (pBin .lss false t7 (vi 0))).bind fun t8 =>
  (pPick t6 t8 (vb false)).bind fun t9 =>
  (pBool t9).bind fun t10 =>
  brn t10 (
    (pIx (rLenN r0) x4).bind fun t11 =>
    (pRowP r0 t11 0).bind fun t12 =>
    (pUn .not t12).bind fun t13 =>
    (pG t13 true (some x0)).bind fun t14 =>
    (pG t13 true (some x2)).bind fun t15 =>
    (pG t13 true (pIndexAddr 2 t14 t15)).bind fun t16 =>
    (pG t13 true (pLoadN 2 t16)).bind fun t17 =>
    (pG t13 true (some x1)).bind fun t18 =>
    (pG t13 true (some x4)).bind fun t19 =>
    (pG t13 true (pIndexAddr 2 t18 t19)).bind fun t20 =>
    (pG t13 true (pLoadN 2 t20)).bind fun t21 =>
    (pG t13 true ((G 75 [t17, t21]).bind (fin false))).bind fun t22 =>
    (pPick t13 t22 (vb false)).bind fun t23 =>
    (pBool t23).bind fun t24 =>
    brn t24 (
      (pBin .add false x4 (vi 1)).bind fun t25 =>
      L103_1 x0 x1 x2 x4 t25 r0 r1) (
      (pBin .add false x4 (vi 1)).bind fun t26 =>
      L103_1 x0 x1 x2 x3 t26 r0 r1)) (
    (pBin .lss false x3 (vi 0)).bind fun t27 =>
    (pBool t27).bind fun t28 =>
    brn t28 (
      (pIndexAddr 2 x0 x2).bind fun t29 =>
      (pLoadN 2 t29).bind fun t30 =>
      (pCells 2 t30).bind fun t31 =>
      brn (pFit ((rLenN r1) + (rLenN [[cGet t31 0, cGet t31 1]])) 40) (
        (pBin .add false x2 (vi 1)).bind fun t32 =>
        L103_0 x0 x1 t32 r0 (rApp r1 [[cGet t31 0, cGet t31 1]])) (
        none)) (
      (pIx (rLenN r0) x3).bind fun t33 =>
      (rGet r0 t33).bind fun t34 =>
      (pBin .add false x2 (vi 1)).bind fun t35 =>
      L103_0 x0 x1 t35 (rSet r0 t33 (cOver t34 0 [vb true])) r1)) :=
  (H_eq Tryz.func103 rfl).trans (by kernel_rfl)
theorem g104 (a0 a1 a2 : A) : G 104 [a0, a1, a2] =
  (pCells 3 a0).bind fun t0 =>
  (pCells 2 a1).bind fun t1 =>
  (pCells 2 a2).bind fun t2 =>
  (pBin .eql false (cGet t1 0) (sv [])).bind fun t3 =>
  (pWant t3 false).bind fun t4 =>
  (pG t3 false (some (cGet t2 0))).bind fun t5 =>
  (pG t3 false (pBin .eql false t5 (sv []))).bind fun t6 =>
  (pPick t3 (vb true) t6).bind fun t7 =>
  (pBool t7).bind fun t8 =>
  brn t8 (
    (pBin .neq false (cGet t1 0) (sv [])).bind fun t9 =>
    some ((t9, []))) (
    ((G 48 [A.agg [cGet t0 0, cGet t0 1, cGet t0 2], A.agg [cGet t1 0, cGet t1 1], A.agg [cGet t2 0, cGet t2 1]]).bind (fin false)).bind fun t10 =>
    some ((t10, []))) :=
  (G_eq rfl Tryz.func104 rfl rfl).trans (by kernel_rfl)
theorem g105 (a0 a1 a2 : A) : G 105 [a0, a1, a2] =
  (pBool a0).bind fun t0 =>
  brn t0 (
    some ((vi 1, []))) (
    (pBool a1).bind fun t1 =>
    brn t1 (
      some ((vi 2, []))) (
      (pBool a2).bind fun t2 =>
      brn t2 (
        some ((vi 3, []))) (
        some ((vi 0, []))))) :=
  (G_eq rfl Tryz.func105 rfl rfl).trans (by kernel_rfl)
theorem g106 (a0 a1 : A) : G 106 [a0, a1] =
  ((G 112 [a0, a1]).bind (fin false)).bind fun t0 =>
  (pBin .geq false t0 (vi 0)).bind fun t1 =>
  some ((t1, [])) :=
  (G_eq rfl Tryz.func106 rfl rfl).trans (by kernel_rfl)
theorem g107 (a0 a1 : A) : G 107 [a0, a1] =
  (pCells 2 a0).bind fun t0 =>
  ((G 108 [A.agg [cGet t0 0, cGet t0 1]]).bind (fin false)).bind fun t1 =>
  (pUn .not t1).bind fun t2 =>
  (pG t2 false (pLoadN 3 a1)).bind fun t3 =>
  (pWant t2 false).bind fun t4 =>
  (pG t2 false ((G 96 [t3, A.agg [cGet t0 0, cGet t0 1]]).bind (fin false))).bind fun t5 =>
  (pG t2 false (pUn .not t5)).bind fun t6 =>
  (pPick t2 (vb true) t6).bind fun t7 =>
  some ((t7, [])) :=
  (G_eq rfl Tryz.func107 rfl rfl).trans (by kernel_rfl)
theorem g108 (a0 : A) : G 108 [a0] =
  (pCells 2 a0).bind fun t0 =>
  ((G 126 [A.agg [cGet t0 0, cGet t0 1]]).bind (fin false)).bind fun t1 =>
  (pWant t1 true).bind fun t2 =>
  (pG t1 true ((G 127 [A.agg [cGet t0 0, cGet t0 1]]).bind (fin false))).bind fun t3 =>
  (pPick t1 t3 (vb false)).bind fun t4 =>
  some ((t4, [])) :=
  (G_eq rfl Tryz.func108 rfl rfl).trans (by kernel_rfl)
theorem c109_0 (x0 : A) : C109_0 x0 =
  (pSlA x0).bind fun t0 =>
  brn (nz (rCnt t0)) (
    bth (
      some ((A.top, [A.sl 2 []]))) (
      (pRows 2 x0).bind fun t1 =>
      brn (pFit (rLenN t1) 40) (
        some ((A.top, [A.sl 2 t1]))) (
        none))) (
    (pRows 2 x0).bind fun t2 =>
    brn (pFit (rLenN t2) 40) (
      some ((A.top, [A.sl 2 t2]))) (
      none)) :=
  (V_eq rfl Tryz.func109 rfl rfl).trans (by kernel_rfl)
theorem c110_0 (r0 r1 : List (List A)) : C110_0 r0 r1 =
  (C112_0 r0 r1).bind fun t0 =>
  (hD t0 0).bind fun t1 =>
  (hR 2 t0 1).bind fun t2 =>
  (hR 2 t0 2).bind fun t3 =>
  (pBin .eql false t1 (vi (-1))).bind fun t4 =>
  (pBool t4).bind fun t5 =>
  brn t5 (
    some ((A.top, [A.sl 2 t3, A.sl 2 t2]))) (
    (pBin .add false t1 (vi 1)).bind fun t6 =>
    L110c0_0 t1 t6 t2 t3) :=
  (V_eq rfl Tryz.func110 rfl rfl).trans (by kernel_rfl)
theorem l110c0_0 (x0 x1 : A) (r0 r1 : List (List A)) : L110c0_0 x0 x1 r0 r1 =
  (pBin .lss false x1 (rLen r0)).bind fun t7 =>
  (pBool t7).bind fun t8 =>
  brn t8 (
    (pIx (rLenN r0) x1).bind fun t9 =>
    (pRowN r0 t9 0 2).bind fun t10 =>
    (pCells 2 t10).bind fun t11 =>
    (C111_0 (cGet t11 0) (cGet t11 1) r1).bind fun t12 =>
    (hD t12 0).bind fun t13 =>
    (hR 2 t12 1).bind fun t14 =>
    (pUn .not t13).bind fun t15 =>
    (pBool t15).bind fun t16 =>
    brn t16 (
      (pIx (rLenN r0) x0).bind fun t17 =>
      brn (okA (cGet t11 0)) (
        brn (okA (cGet t11 1)) (
          (rGet r0 t17).bind fun t18 =>
          (pBin .add false x0 (vi 1)).bind fun t19 =>
          (pBin .add false x1 (vi 1)).bind fun t20 =>
          L110c0_0 t19 t20 (rSet r0 t17 (cOver t18 0 [cGet t11 0, cGet t11 1])) t14) (
          none)) (
        none)) (
      (pBin .add false x1 (vi 1)).bind fun t21 =>
      L110c0_0 x0 t21 r0 t14)) (
    (pB (rCnt r0) (rRem r0 0) none).bind fun t22 =>
    (pB 0 t22 (some x0)).bind fun t23 =>
    (pB (rCnt (rOver r0 (0 + t23) (rRep (nSub t22 t23) [sv [], A.sl 2 []]))) (rRem (rOver r0 (0 + t23) (rRep (nSub t22 t23) [sv [], A.sl 2 []])) 0) (some x0)).bind fun t24 =>
    some ((A.top, [A.sl 2 r1, A.sl 2 (List.take (nSub t24 0) (rOver r0 (0 + t23) (rRep (nSub t22 t23) [sv [], A.sl 2 []])))]))) :=
  (H_eq Tryz.func110 rfl).trans (by kernel_rfl)
theorem c111_0 (x0 x1 : A) (r0 : List (List A)) : C111_0 x0 x1 r0 =
  brn (okA x0) (
    brn (okA x1) (
      ((G 112 [A.sl 2 r0, A.fn 113 [A.elt [x0, x1] 0]]).bind (fin true)).bind fun t0 =>
      (pBin .geq false t0 (vi 0)).bind fun t1 =>
      (pBool t1).bind fun t2 =>
      brn t2 (
        (pBin .add false t0 (vi 1)).bind fun t3 =>
        (C114_0 t0 t3 r0).bind fun t4 =>
        (hR 2 t4 0).bind fun t5 =>
        (pBin .geq false t0 (vi 0)).bind fun t6 =>
        some ((A.top, [t6, A.sl 2 t5]))) (
        (pBin .geq false t0 (vi 0)).bind fun t7 =>
        some ((A.top, [t7, A.sl 2 r0])))) (
      none)) (
    none) :=
  (V_eq rfl Tryz.func111 rfl rfl).trans (by kernel_rfl)
theorem c111_1 (x0 : A) (r0 : List (List A)) : C111_1 x0 r0 =
  (pCells 2 x0).bind fun t0 =>
  ((G 112 [A.sl 2 r0, A.fn 113 [A.elt [cGet t0 0, cGet t0 1] 0]]).bind (fin true)).bind fun t1 =>
  (pBin .geq false t1 (vi 0)).bind fun t2 =>
  (pBool t2).bind fun t3 =>
  brn t3 (
    (pBin .add false t1 (vi 1)).bind fun t4 =>
    (C114_0 t1 t4 r0).bind fun t5 =>
    (hR 2 t5 0).bind fun t6 =>
    (pBin .geq false t1 (vi 0)).bind fun t7 =>
    some ((A.top, [t7, A.sl 2 t6]))) (
    (pBin .geq false t1 (vi 0)).bind fun t8 =>
    some ((A.top, [t8, A.sl 2 r0]))) :=
  (V_eq rfl Tryz.func111 rfl rfl).trans (by kernel_rfl)
theorem g112 (a0 a1 : A) : G 112 [a0, a1] =
  (pLenL a0).bind fun t0 =>
  L112_0 a0 a1 t0 (vi 0) :=
  (G_eq rfl Tryz.func112 rfl rfl).trans (by kernel_rfl)
theorem l112_0 (x0 x1 x2 x3 : A) : L112_0 x0 x1 x2 x3 =
  (pBin .lss false x3 x2).bind fun t1 =>
  (pBool t1).bind fun t2 =>
  brn t2 (
    (pIndexAddr 2 x0 x3).bind fun t3 =>
    (pLoadN 2 t3).bind fun t4 =>
    (DX.run K (MM K) (.callc x1 [t4] false)).bind fun t5 =>
    (pBool t5).bind fun t6 =>
    brn t6 (
      some ((x3, []))) (
      (pBin .add false x3 (vi 1)).bind fun t7 =>
      L112_0 x0 x1 x2 t7)) (
    some ((vi (-1), []))) :=
  (H_eq Tryz.func112 rfl).trans (by kernel_rfl)
theorem c112_0 (r0 r1 : List (List A)) : C112_0 r0 r1 =
  L112c0_0 (rLen r0) (vi 0) r0 r1 :=
  (V_eq rfl Tryz.func112 rfl rfl).trans (by kernel_rfl)
theorem l112c0_0 (x0 x1 : A) (r0 r1 : List (List A)) : L112c0_0 x0 x1 r0 r1 =
  (pBin .lss false x1 x0).bind fun t0 =>
  (pBool t0).bind fun t1 =>
  brn t1 (
    (pIx (rLenN r0) x1).bind fun t2 =>
    (pRowN r0 t2 0 2).bind fun t3 =>
    (C111_1 t3 r1).bind fun t4 =>
    (hD t4 0).bind fun t5 =>
    (hR 2 t4 1).bind fun t6 =>
    (pBool t5).bind fun t7 =>
    brn t7 (
      some ((A.top, [x1, A.sl 2 r0, A.sl 2 t6]))) (
      (pBin .add false x1 (vi 1)).bind fun t8 =>
      L112c0_1 x0 t8 r0 t6)) (
    some ((A.top, [vi (-1), A.sl 2 r0, A.sl 2 r1]))) :=
  (H_eq Tryz.func112 rfl).trans (by kernel_rfl)
theorem l112c0_1 (x0 x1 : A) (r0 r1 : List (List A)) : L112c0_1 x0 x1 r0 r1 =
  (pBin .lss false x1 x0).bind fun t9 =>
  (pBool t9).bind fun t10 =>
  brn t10 (
    (pIx (rLenN r0) x1).bind fun t11 =>
    (pRowN r0 t11 0 2).bind fun t12 =>
    (C111_1 t12 r1).bind fun t13 =>
    (hD t13 0).bind fun t14 =>
    (hR 2 t13 1).bind fun t15 =>
    (pBool t14).bind fun t16 =>
    brn t16 (
      some ((A.top, [x1, A.sl 2 r0, A.sl 2 t15]))) (
      (pBin .add false x1 (vi 1)).bind fun t17 =>
      L112c0_1 x0 t17 r0 t15)) (
    some ((A.top, [vi (-1), A.sl 2 r0, A.sl 2 r1]))) :=
  (H_eq Tryz.func112 rfl).trans (by kernel_rfl)
theorem g113 (a0 a1 : A) : G 113 [a0, a1] =
  (pCells 2 a0).bind fun t0 =>
  (pLoadN 2 a1).bind fun t1 =>
  ((G 77 [t1, A.agg [cGet t0 0, cGet t0 1]]).bind (fin false)).bind fun t2 =>
  some ((t2, [])) :=
  (G_eq rfl Tryz.func113 rfl rfl).trans (by kernel_rfl)
theorem c114_0 (x0 x1 : A) (r0 : List (List A)) : C114_0 x0 x1 r0 =
  (pB 0 (rRem r0 0) (some (rLen r0))).bind fun t0 =>
  (pB 0 t0 (some x1)).bind fun t1 =>
  (pB 0 t1 (some x0)).bind fun t2 =>
  (pBin .eql false x0 x1).bind fun t3 =>
  (pBool t3).bind fun t4 =>
  brn t4 (
    some ((A.top, [A.sl 2 r0]))) (
    (pB (rCnt r0) (rRem r0 0) (some x0)).bind fun t5 =>
    (pB (rCnt r0) (rRem r0 0) none).bind fun t6 =>
    (pB 0 t6 (some x1)).bind fun t7 =>
    brn (pRoom 0 (nSub t5 0) (rWin r0 (0 + t7) (nSub t6 t7)) r0) (
      (pB ((nSub t5 0) + (rCnt (rWin r0 (0 + t7) (nSub t6 t7)))) (rRem (rOver r0 (0 + (nSub t5 0)) (rWin r0 (0 + t7) (nSub t6 t7))) 0) (some (rLen r0))).bind fun t8 =>
      (pB 0 t8 (some (nA ((nSub t5 0) + (rCnt (rWin r0 (0 + t7) (nSub t6 t7))))))).bind fun t9 =>
      some ((A.top, [A.sl 2 (List.take ((nSub t5 0) + (rCnt (rWin r0 (0 + t7) (nSub t6 t7)))) (rOver (rOver r0 (0 + (nSub t5 0)) (rWin r0 (0 + t7) (nSub t6 t7))) (0 + t9) (rRep (nSub t8 t9) [sv [], A.sl 2 []])))]))) (
      none)) :=
  (V_eq rfl Tryz.func114 rfl rfl).trans (by kernel_rfl)
theorem g115 (a0 a1 a2 : A) : G 115 [a0, a1, a2] =
  (pLoadN 3 a0).bind fun t0 =>
  (pLoadP a1).bind fun t1 =>
  (pLoadP a2).bind fun t2 =>
  ((G 116 [t0, t1, t2]).bind (fin false)).bind fun t3 =>
  some ((t3, [])) :=
  (G_eq rfl Tryz.func115 rfl rfl).trans (by kernel_rfl)
theorem g116 (a0 a1 a2 : A) : G 116 [a0, a1, a2] =
  (pCells 3 a0).bind fun t0 =>
  brn (okA a1) (
    ((G 106 [a2, A.fn 147 [A.elt [a1] 0, A.elt [cGet t0 0, cGet t0 1, cGet t0 2] 0]]).bind (fin true)).bind fun t1 =>
    (pUn .not t1).bind fun t2 =>
    some ((t2, []))) (
    none) :=
  (G_eq rfl Tryz.func116 rfl rfl).trans (by kernel_rfl)
theorem g117 (a0 a1 a2 : A) : G 117 [a0, a1, a2] =
  (pLoadN 3 a0).bind fun t0 =>
  (pLoadP a1).bind fun t1 =>
  (pLoadP a2).bind fun t2 =>
  ((G 116 [t0, t1, t2]).bind (fin false)).bind fun t3 =>
  some ((t3, [])) :=
  (G_eq rfl Tryz.func117 rfl rfl).trans (by kernel_rfl)
theorem g118 (a0 : A) : G 118 [a0] =
  (pCells 3 a0).bind fun t0 =>
  brn (okA (cGet t0 1)) (
    brn (okA (cGet t0 2)) (
      ((G 52 [A.agg [cGet t0 1, cGet t0 2]]).bind (fin false)).bind fun t1 =>
      (pBool t1).bind fun t2 =>
      brn t2 (
        (pUn .not (cGet t0 0)).bind fun t3 =>
        (pBool t3).bind fun t4 =>
        brn t4 (
          brn (okA (cGet t0 2)) (
            brn (okA (cGet t0 2)) (
              (C150_0 [[cGet t0 2], [cGet t0 2]]).bind fun t5 =>
              (hR 2 t5 0).bind fun t6 =>
              some ((A.sl 2 t6, []))) (
              none)) (
            none)) (
          some ((cGet t0 2, [])))) (
        (pUn .not (cGet t0 0)).bind fun t7 =>
        (pBool t7).bind fun t8 =>
        brn t8 (
          (C150_0 [[A.sl 2 [[cGet t0 1, cGet t0 2], [sv [], A.sl 2 []]]], [A.sl 2 [[cGet t0 1, cGet t0 2], [sv [], A.sl 2 []]]]]).bind fun t9 =>
          (hR 2 t9 0).bind fun t10 =>
          some ((A.sl 2 t10, []))) (
          some ((A.sl 2 [[cGet t0 1, cGet t0 2], [sv [], A.sl 2 []]], []))))) (
      none)) (
    none) :=
  (G_eq rfl Tryz.func118 rfl rfl).trans (by kernel_rfl)
theorem g122 (a0 : A) : G 122 [a0] =
  (pCells 2 a0).bind fun t0 =>
  ((G 152 [A.agg [cGet t0 0, cGet t0 1], vi 30]).bind (fin false)).bind fun t1 =>
  (pBin .leq false t1 (vi 30)).bind fun t2 =>
  (pWant t2 true).bind fun t3 =>
  (pG t2 true ((G 153 [A.agg [cGet t0 0, cGet t0 1]]).bind (fin false))).bind fun t4 =>
  (pG t2 true (pBin .leq false t4 (vi 8))).bind fun t5 =>
  (pPick t2 t5 (vb false)).bind fun t6 =>
  some ((t6, [])) :=
  (G_eq rfl Tryz.func122 rfl rfl).trans (by kernel_rfl)
theorem g123 (a0 : A) : G 123 [a0] =
  (pCells 2 a0).bind fun t0 =>
  ((G 90 [cGet t0 0]).bind (fin false)).bind fun t1 =>
  (pBool t1).bind fun t2 =>
  brn t2 (
    (pLenL (cGet t0 1)).bind fun t3 =>
    (pBin .eql false t3 (vi 0)).bind fun t4 =>
    some ((t4, []))) (
    ((G 85 [cGet t0 0]).bind (fin false)).bind fun t5 =>
    (pUn .not t5).bind fun t6 =>
    (pWant t6 false).bind fun t7 =>
    (pG t6 false (some (cGet t0 1))).bind fun t8 =>
    (pG t6 false (pLenL t8)).bind fun t9 =>
    (pG t6 false (pBin .gtr false t9 (vi 4))).bind fun t10 =>
    (pPick t6 (vb true) t10).bind fun t11 =>
    (pBool t11).bind fun t12 =>
    brn t12 (
      some ((vb false, []))) (
      L123_0 (vi 0) (cGet t0 0) (cGet t0 1))) :=
  (G_eq rfl Tryz.func123 rfl rfl).trans (by kernel_rfl)
theorem l123_0 (x0 x1 x2 : A) : L123_0 x0 x1 x2 =
  (pLenL x2).bind fun t13 =>
  (pBin .lss false x0 t13).bind fun t14 =>
  (pBool t14).bind fun t15 =>
  brn t15 (
    (pIndexAddr 2 x2 x0).bind fun t16 =>
    (pLoadN 2 t16).bind fun t17 =>
    ((G 123 [t17]).bind (fin false)).bind fun t18 =>
    (pUn .not t18).bind fun t19 =>
    (pBool t19).bind fun t20 =>
    brn t20 (
      some ((vb false, []))) (
      (pBin .add false x0 (vi 1)).bind fun t21 =>
      L123_0 t21 x1 x2)) (
    some ((vb true, []))) :=
  (H_eq Tryz.func123 rfl).trans (by kernel_rfl)
theorem g126 (a0 : A) : G 126 [a0] =
  (pCells 2 a0).bind fun t0 =>
  ((G 161 [A.agg [cGet t0 0, cGet t0 1]]).bind (fin false)).bind fun t1 =>
  (pBin .leq false t1 (vi 30)).bind fun t2 =>
  (pWant t2 true).bind fun t3 =>
  (pG t2 true ((G 162 [A.agg [cGet t0 0, cGet t0 1]]).bind (fin false))).bind fun t4 =>
  (pG t2 true (pBin .leq false t4 (vi 8))).bind fun t5 =>
  (pPick t2 t5 (vb false)).bind fun t6 =>
  some ((t6, [])) :=
  (G_eq rfl Tryz.func126 rfl rfl).trans (by kernel_rfl)
theorem g127 (a0 : A) : G 127 [a0] =
  (pCells 2 a0).bind fun t0 =>
  ((G 163 [cGet t0 0]).bind (fin false)).bind fun t1 =>
  (pBool t1).bind fun t2 =>
  brn t2 (
    (pLenL (cGet t0 1)).bind fun t3 =>
    (pBin .eql false t3 (vi 0)).bind fun t4 =>
    some ((t4, []))) (
    ((G 94 [cGet t0 0]).bind (fin false)).bind fun t5 =>
    (pWant t5 true).bind fun t6 =>
    (pG t5 true (some (cGet t0 1))).bind fun t7 =>
    (pG t5 true (pLenL t7)).bind fun t8 =>
    (pG t5 true (pBin .leq false t8 (vi 4))).bind fun t9 =>
    (pPick t5 t9 (vb false)).bind fun t10 =>
    (pWant t10 true).bind fun t11 =>
    (pG t10 true (some (cGet t0 1))).bind fun t12 =>
    (pG t10 true ((G 106 [t12, A.fn 164 []]).bind (fin false))).bind fun t13 =>
    (pG t10 true (pUn .not t13)).bind fun t14 =>
    (pPick t10 t14 (vb false)).bind fun t15 =>
    some ((t15, []))) :=
  (G_eq rfl Tryz.func127 rfl rfl).trans (by kernel_rfl)
theorem g128 (a0 a1 a2 : A) : G 128 [a0, a1, a2] =
  (pLenL a0).bind fun t0 =>
  (pLenL a1).bind fun t1 =>
  (pBin .neq false t0 t1).bind fun t2 =>
  (pBool t2).bind fun t3 =>
  brn t3 (
    some ((vb false, []))) (
    (pLenL a0).bind fun t4 =>
    L128_0 a1 a2 a0 t4 (vi 0)) :=
  (G_eq rfl Tryz.func128 rfl rfl).trans (by kernel_rfl)
theorem l128_0 (x0 x1 x2 x3 x4 : A) : L128_0 x0 x1 x2 x3 x4 =
  (pBin .lss false x4 x3).bind fun t5 =>
  (pBool t5).bind fun t6 =>
  brn t6 (
    (pIndexAddr 2 x2 x4).bind fun t7 =>
    (pLoadN 2 t7).bind fun t8 =>
    (pCells 2 t8).bind fun t9 =>
    (pIndexAddr 2 x0 x4).bind fun t10 =>
    (pLoadN 2 t10).bind fun t11 =>
    (pCells 2 t11).bind fun t12 =>
    (DX.run K (MM K) (.callc x1 [A.agg [cGet t9 0, cGet t9 1], A.agg [cGet t12 0, cGet t12 1]] false)).bind fun t13 =>
    (pUn .not t13).bind fun t14 =>
    (pBool t14).bind fun t15 =>
    brn t15 (
      some ((vb false, []))) (
      (pBin .add false x4 (vi 1)).bind fun t16 =>
      L128_0 x0 x1 x2 x3 t16)) (
    some ((vb true, []))) :=
  (H_eq Tryz.func128 rfl).trans (by kernel_rfl)
theorem g132 (a0 : A) : G 132 [a0] =
  (pBin .geq false a0 (vy 97)).bind fun t0 =>
  (pG t0 true (some a0)).bind fun t1 =>
  (pG t0 true (pBin .leq false t1 (vy 122))).bind fun t2 =>
  (pPick t0 t2 (vb false)).bind fun t3 =>
  (pG t3 false (some a0)).bind fun t4 =>
  (pG t3 false (pBin .geq false t4 (vy 48))).bind fun t5 =>
  (pG t3 false (some t5)).bind fun t6 =>
  (pG t6 true (some a0)).bind fun t7 =>
  (pG t6 true (pBin .leq false t7 (vy 57))).bind fun t8 =>
  (pG t3 false (pPick t6 t8 (vb false))).bind fun t9 =>
  (pPick t3 (vb true) t9).bind fun t10 =>
  some ((t10, [])) :=
  (G_eq rfl Tryz.func132 rfl rfl).trans (by kernel_rfl)
theorem g133 (a0 a1 : A) : G 133 [a0, a1] =
  (pCells 3 a0).bind fun t0 =>
  L133_0 a1 (vi 0) (cGet t0 0) (cGet t0 1) (cGet t0 2) :=
  (G_eq rfl Tryz.func133 rfl rfl).trans (by kernel_rfl)
theorem l133_0 (x0 x1 x2 x3 x4 : A) : L133_0 x0 x1 x2 x3 x4 =
  (pLenL x2).bind fun t1 =>
  (pBin .lss false x1 t1).bind fun t2 =>
  (pBool t2).bind fun t3 =>
  brn t3 (
    (pIndexAddr 1 x2 x1).bind fun t4 =>
    (pLoadP t4).bind fun t5 =>
    (pBin .eql false t5 x0).bind fun t6 =>
    (pBool t6).bind fun t7 =>
    brn t7 (
      some ((x1, []))) (
      (pBin .add false x1 (vi 1)).bind fun t8 =>
      L133_0 x0 t8 x2 x3 x4)) (
    some ((vi (-1), []))) :=
  (H_eq Tryz.func133 rfl).trans (by kernel_rfl)
theorem g134 (a0 : A) : G 134 [a0] =
  (pCells 2 a0).bind fun t0 =>
  ((G 168 [A.sl 1 [], A.agg [cGet t0 0, cGet t0 1]]).bind (fin false)).bind fun t1 =>
  some ((t1, [])) :=
  (G_eq rfl Tryz.func134 rfl rfl).trans (by kernel_rfl)
theorem g135 (a0 a1 : A) : G 135 [a0, a1] =
  (pCells 2 a0).bind fun t0 =>
  (pBin .eql false (cGet t0 0) a1).bind fun t1 =>
  (pBool t1).bind fun t2 =>
  brn t2 (
    L135_0 a1 (vi 1) (vi 0) (cGet t0 0) (cGet t0 1)) (
    L135_0 a1 (vi 0) (vi 0) (cGet t0 0) (cGet t0 1)) :=
  (G_eq rfl Tryz.func135 rfl rfl).trans (by kernel_rfl)
theorem l135_0 (x0 x1 x2 x3 x4 : A) : L135_0 x0 x1 x2 x3 x4 =
  (pLenL x4).bind fun t3 =>
  (pBin .lss false x2 t3).bind fun t4 =>
  (pBool t4).bind fun t5 =>
  brn t5 (
    (pIndexAddr 2 x4 x2).bind fun t6 =>
    (pLoadN 2 t6).bind fun t7 =>
    ((G 135 [t7, x0]).bind (fin false)).bind fun t8 =>
    (pBin .add false x1 t8).bind fun t9 =>
    (pBin .add false x2 (vi 1)).bind fun t10 =>
    L135_0 x0 t9 t10 x3 x4) (
    some ((x1, []))) :=
  (H_eq Tryz.func135 rfl).trans (by kernel_rfl)
theorem g136 (a0 : A) : G 136 [a0] =
  (pBin .geq false a0 (vy 97)).bind fun t0 =>
  (pG t0 true (some a0)).bind fun t1 =>
  (pG t0 true (pBin .leq false t1 (vy 122))).bind fun t2 =>
  (pPick t0 t2 (vb false)).bind fun t3 =>
  some ((t3, [])) :=
  (G_eq rfl Tryz.func136 rfl rfl).trans (by kernel_rfl)
theorem g137 (a0 : A) : G 137 [a0] =
  (pBin .geq false a0 (vy 48)).bind fun t0 =>
  (pG t0 true (some a0)).bind fun t1 =>
  (pG t0 true (pBin .leq false t1 (vy 57))).bind fun t2 =>
  (pPick t0 t2 (vb false)).bind fun t3 =>
  some ((t3, [])) :=
  (G_eq rfl Tryz.func137 rfl rfl).trans (by kernel_rfl)
theorem g138 : G 138 [] =
  some ((A.sl 1 [[sv [116, 114, 117, 101]], [sv [102, 97, 108, 115, 101]], [sv [116, 114, 117, 116, 104]], [sv [98, 111, 116, 104]], [sv [101, 105, 116, 104, 101, 114]], [sv [105, 102]], [sv [97, 108, 108]], [sv [115, 111, 109, 101]]], [])) :=
  (G_eq rfl Tryz.func138 rfl rfl).trans (by kernel_rfl)
theorem g139 (a0 a1 : A) : G 139 [a0, a1] =
  (pLenL a0).bind fun t0 =>
  L139_0 a0 a1 t0 (vi 0) :=
  (G_eq rfl Tryz.func139 rfl rfl).trans (by kernel_rfl)
theorem l139_0 (x0 x1 x2 x3 : A) : L139_0 x0 x1 x2 x3 =
  (pBin .lss false x3 x2).bind fun t1 =>
  (pBool t1).bind fun t2 =>
  brn t2 (
    (pIndexAddr 1 x0 x3).bind fun t3 =>
    (pLoadP t3).bind fun t4 =>
    (pBin .eql false x1 t4).bind fun t5 =>
    (pBool t5).bind fun t6 =>
    brn t6 (
      some ((x3, []))) (
      (pBin .add false x3 (vi 1)).bind fun t7 =>
      L139_0 x0 x1 x2 t7)) (
    some ((vi (-1), []))) :=
  (H_eq Tryz.func139 rfl).trans (by kernel_rfl)
theorem g140 (a0 : A) : G 140 [a0] =
  (pCells 2 a0).bind fun t0 =>
  (pIndexS (cGet t0 0) (vi 0)).bind fun t1 =>
  ((G 169 [t1]).bind (fin false)).bind fun t2 =>
  some ((t2, [])) :=
  (G_eq rfl Tryz.func140 rfl rfl).trans (by kernel_rfl)
theorem g141 (a0 a1 : A) : G 141 [a0, a1] =
  (pCells 2 a0).bind fun t0 =>
  (pLoadN 3 a1).bind fun t1 =>
  ((G 96 [t1, A.agg [cGet t0 0, cGet t0 1]]).bind (fin false)).bind fun t2 =>
  (pUn .not t2).bind fun t3 =>
  some ((t3, [])) :=
  (G_eq rfl Tryz.func141 rfl rfl).trans (by kernel_rfl)
theorem g142 (a0 : A) : G 142 [a0] =
  (pCells 2 a0).bind fun t0 =>
  (C170_0 (cGet t0 0) (cGet t0 1) []).bind fun t1 =>
  (hR 1 t1 0).bind fun t2 =>
  (C171_0 t2).bind fun t3 =>
  (hR 1 t3 0).bind fun t4 =>
  some ((A.sl 1 t4, [])) :=
  (G_eq rfl Tryz.func142 rfl rfl).trans (by kernel_rfl)
theorem g143 (a0 a1 : A) : G 143 [a0, a1] =
  (pCells 2 a0).bind fun t0 =>
  (pBin .eql false (cGet t0 0) a1).bind fun t1 =>
  (pBool t1).bind fun t2 =>
  brn t2 (
    (pLenL (cGet t0 1)).bind fun t3 =>
    L143_0 a1 (vi 1) (cGet t0 1) t3 (vi 0)) (
    (pLenL (cGet t0 1)).bind fun t4 =>
    L143_0 a1 (vi 0) (cGet t0 1) t4 (vi 0)) :=
  (G_eq rfl Tryz.func143 rfl rfl).trans (by kernel_rfl)
theorem l143_0 (x0 x1 x2 x3 x4 : A) : L143_0 x0 x1 x2 x3 x4 =
  (pBin .lss false x4 x3).bind fun t5 =>
  (pBool t5).bind fun t6 =>
  brn t6 (
    (pIndexAddr 2 x2 x4).bind fun t7 =>
    (pLoadN 2 t7).bind fun t8 =>
    (pCells 2 t8).bind fun t9 =>
    ((G 143 [A.agg [cGet t9 0, cGet t9 1], x0]).bind (fin false)).bind fun t10 =>
    (pBin .add false x1 t10).bind fun t11 =>
    (pBin .add false x4 (vi 1)).bind fun t12 =>
    L143_0 x0 t11 x2 x3 t12) (
    some ((x1, []))) :=
  (H_eq Tryz.func143 rfl).trans (by kernel_rfl)
theorem g144 (a0 a1 : A) : G 144 [a0, a1] =
  (pCells 3 a0).bind fun t0 =>
  (pCells 2 a1).bind fun t1 =>
  ((G 140 [A.agg [cGet t1 0, cGet t1 1]]).bind (fin false)).bind fun t2 =>
  (pBool t2).bind fun t3 =>
  brn t3 (
    some ((cGet t0 2, []))) (
    ((G 139 [cGet t0 0, cGet t1 0]).bind (fin false)).bind fun t4 =>
    (pIndexAddr 1 (cGet t0 1) t4).bind fun t5 =>
    (pLoadP t5).bind fun t6 =>
    (pLenL (cGet t1 1)).bind fun t7 =>
    L144_0 t6 (cGet t1 1) t7 (vi 0) (cGet t0 0) (cGet t0 1) (cGet t0 2)) :=
  (G_eq rfl Tryz.func144 rfl rfl).trans (by kernel_rfl)
theorem l144_0 (x0 x1 x2 x3 x4 x5 x6 : A) : L144_0 x0 x1 x2 x3 x4 x5 x6 =
  (pBin .lss false x3 x2).bind fun t8 =>
  (pBool t8).bind fun t9 =>
  brn t9 (
    (pIndexAddr 2 x1 x3).bind fun t10 =>
    (pLoadN 2 t10).bind fun t11 =>
    (pCells 2 t11).bind fun t12 =>
    ((G 144 [A.agg [x4, x5, x6], A.agg [cGet t12 0, cGet t12 1]]).bind (fin false)).bind fun t13 =>
    (pBin .add false x0 t13).bind fun t14 =>
    (pBin .add false x3 (vi 1)).bind fun t15 =>
    L144_0 t14 x1 x2 t15 x4 x5 x6) (
    some ((x0, []))) :=
  (H_eq Tryz.func144 rfl).trans (by kernel_rfl)
theorem g145 (a0 a1 a2 : A) : G 145 [a0, a1, a2] =
  (pCells 3 a0).bind fun t0 =>
  (pCells 2 a1).bind fun t1 =>
  (pCells 2 a2).bind fun t2 =>
  ((G 139 [cGet t0 0, cGet t1 0]).bind (fin false)).bind fun t3 =>
  ((G 139 [cGet t0 0, cGet t2 0]).bind (fin false)).bind fun t4 =>
  (pBin .lss false t3 t4).bind fun t5 =>
  (pG t5 false (some t3)).bind fun t6 =>
  (pG t5 false (some t4)).bind fun t7 =>
  (pG t5 false (pBin .eql false t6 t7)).bind fun t8 =>
  (pG t5 false (some t8)).bind fun t9 =>
  (pWant t9 true).bind fun t10 =>
  (pG t9 true (some (cGet t1 1))).bind fun t11 =>
  (pG t9 true (pLenL t11)).bind fun t12 =>
  (pWant t9 true).bind fun t13 =>
  (pG t9 true (some (cGet t2 1))).bind fun t14 =>
  (pG t9 true (pLenL t14)).bind fun t15 =>
  (pG t9 true (pBin .lss false t12 t15)).bind fun t16 =>
  (pG t5 false (pPick t9 t16 (vb false))).bind fun t17 =>
  (pPick t5 (vb true) t17).bind fun t18 =>
  some ((t18, [])) :=
  (G_eq rfl Tryz.func145 rfl rfl).trans (by kernel_rfl)
theorem g146 (a0 a1 : A) : G 146 [a0, a1] =
  (pCells 2 a0).bind fun t0 =>
  (pCells 2 a1).bind fun t1 =>
  (pBin .neq false (cGet t0 0) (cGet t1 0)).bind fun t2 =>
  (pWant t2 false).bind fun t3 =>
  (pG t2 false (some (cGet t0 1))).bind fun t4 =>
  (pG t2 false (pLenL t4)).bind fun t5 =>
  (pWant t2 false).bind fun t6 =>
  (pG t2 false (some (cGet t1 1))).bind fun t7 =>
  (pG t2 false (pLenL t7)).bind fun t8 =>
  (pG t2 false (pBin .neq false t5 t8)).bind fun t9 =>
  (pPick t2 (vb true) t9).bind fun t10 =>
  (pBool t10).bind fun t11 =>
  brn t11 (
    some ((A.tup [A.agg [sv [], A.sl 2 []], A.agg [sv [], A.sl 2 []], vb false], []))) (
    (pLenL (cGet t0 1)).bind fun t12 =>
    L146_0 (cGet t0 1) t12 (vi 0) (cGet t1 0) (cGet t1 1) (sv []) (sv []) [] []) :=
  (G_eq rfl Tryz.func146 rfl rfl).trans (by kernel_rfl)
theorem l146_0 (x0 x1 x2 x3 x4 x5 x6 : A) (r0 r1 : List (List A)) : L146_0 x0 x1 x2 x3 x4 x5 x6 r0 r1 =
  (pBin .lss false x2 x1).bind fun t13 =>
  (pBool t13).bind fun t14 =>
  brn t14 (
    (pIndexAddr 2 x0 x2).bind fun t15 =>
    (pLoadN 2 t15).bind fun t16 =>
    (pCells 2 t16).bind fun t17 =>
    (pIndexAddr 2 x4 x2).bind fun t18 =>
    (pLoadN 2 t18).bind fun t19 =>
    ((G 77 [A.agg [cGet t17 0, cGet t17 1], t19]).bind (fin false)).bind fun t20 =>
    (pUn .not t20).bind fun t21 =>
    (pBool t21).bind fun t22 =>
    brn t22 (
      (pIndexAddr 2 x4 x2).bind fun t23 =>
      (pLoadN 2 t23).bind fun t24 =>
      brn (okA (cGet t17 0)) (
        brn (okA (cGet t17 1)) (
          (pCells 2 t24).bind fun t25 =>
          some ((A.tup [A.agg [cGet t17 0, cGet t17 1], A.agg [cGet t25 0, cGet t25 1], vb true], []))) (
          none)) (
        none)) (
      (pBin .add false x2 (vi 1)).bind fun t26 =>
      L146_0 x0 x1 t26 x3 x4 x5 x6 r0 r1)) (
    some ((A.tup [A.agg [sv [], A.sl 2 []], A.agg [sv [], A.sl 2 []], vb false], []))) :=
  (H_eq Tryz.func146 rfl).trans (by kernel_rfl)
theorem g147 (a0 a1 a2 : A) : G 147 [a0, a1, a2] =
  (pCells 2 a0).bind fun t0 =>
  (pLoadP a1).bind fun t1 =>
  ((G 106 [t1, A.fn 148 [a2, A.elt [cGet t0 0, cGet t0 1] 0]]).bind (fin true)).bind fun t2 =>
  (pUn .not t2).bind fun t3 =>
  some ((t3, [])) :=
  (G_eq rfl Tryz.func147 rfl rfl).trans (by kernel_rfl)
theorem g148 (a0 a1 a2 : A) : G 148 [a0, a1, a2] =
  (pCells 2 a0).bind fun t0 =>
  (pLoadN 3 a1).bind fun t1 =>
  (pLoadN 2 a2).bind fun t2 =>
  ((G 149 [t1, A.agg [cGet t0 0, cGet t0 1], t2]).bind (fin false)).bind fun t3 =>
  some ((t3, [])) :=
  (G_eq rfl Tryz.func148 rfl rfl).trans (by kernel_rfl)
theorem g149 (a0 a1 a2 : A) : G 149 [a0, a1, a2] =
  (pCells 3 a0).bind fun t0 =>
  (pCells 2 a1).bind fun t1 =>
  (pCells 2 a2).bind fun t2 =>
  ((G 172 [A.agg [cGet t1 0, cGet t1 1]]).bind (fin false)).bind fun t3 =>
  (pWant t3 false).bind fun t4 =>
  (pG t3 false ((G 172 [A.agg [cGet t2 0, cGet t2 1]]).bind (fin false))).bind fun t5 =>
  (pPick t3 (vb true) t5).bind fun t6 =>
  (pBool t6).bind fun t7 =>
  brn t7 (
    ((G 172 [A.agg [cGet t1 0, cGet t1 1]]).bind (fin false)).bind fun t8 =>
    (pUn .not t8).bind fun t9 =>
    some ((t9, []))) (
    ((G 100 [A.agg [cGet t0 0, cGet t0 1, cGet t0 2], A.agg [cGet t1 0, cGet t1 1], A.agg [cGet t2 0, cGet t2 1]]).bind (fin false)).bind fun t10 =>
    some ((t10, []))) :=
  (G_eq rfl Tryz.func149 rfl rfl).trans (by kernel_rfl)
theorem c150_0 (r0 : List (List A)) : C150_0 r0 =
  L150c0_0 (vi 0) (rLen r0) (vi 0) r0 :=
  (V_eq rfl Tryz.func150 rfl rfl).trans (by kernel_rfl)
theorem l150c0_0 (x0 x1 x2 : A) (r0 : List (List A)) : L150c0_0 x0 x1 x2 r0 =
  (pBin .lss false x2 x1).bind fun t0 =>
  (pBool t0).bind fun t1 =>
  brn t1 (
    (pIx (rLenN r0) x2).bind fun t2 =>
    (pRowP r0 t2 0).bind fun t3 =>
    (pLenL t3).bind fun t4 =>
    (pBin .add false x0 t4).bind fun t5 =>
    (pBin .lss false t5 (vi 0)).bind fun t6 =>
    (pBool t6).bind fun t7 =>
    brn t7 (
      none) (
      (pBin .add false x2 (vi 1)).bind fun t8 =>
      L150c0_0 t5 x1 t8 r0)) (
    (C173_0 x0).bind fun t9 =>
    (hR 2 t9 0).bind fun t10 =>
    L150c0_1 (rLen r0) (vi 0) t10 r0) :=
  (H_eq Tryz.func150 rfl).trans (by kernel_rfl)
theorem l150c0_1 (x0 x1 : A) (r0 r1 : List (List A)) : L150c0_1 x0 x1 r0 r1 =
  (pBin .lss false x1 x0).bind fun t11 =>
  (pBool t11).bind fun t12 =>
  brn t12 (
    (pIx (rLenN r1) x1).bind fun t13 =>
    (pRowP r1 t13 0).bind fun t14 =>
    (pRows 2 t14).bind fun t15 =>
    brn (pFit ((rLenN r0) + (rLenN t15)) 40) (
      (pBin .add false x1 (vi 1)).bind fun t16 =>
      L150c0_1 x0 t16 (rApp r0 t15) r1) (
      none)) (
    some ((A.top, [A.sl 2 r0]))) :=
  (H_eq Tryz.func150 rfl).trans (by kernel_rfl)
theorem g152 (a0 a1 : A) : G 152 [a0, a1] =
  (pCells 2 a0).bind fun t0 =>
  L152_0 a1 (vi 1) (vi 0) (cGet t0 0) (cGet t0 1) :=
  (G_eq rfl Tryz.func152 rfl rfl).trans (by kernel_rfl)
theorem l152_0 (x0 x1 x2 x3 x4 : A) : L152_0 x0 x1 x2 x3 x4 =
  (pLenL x4).bind fun t1 =>
  (pBin .lss false x2 t1).bind fun t2 =>
  (pG t2 true (some x1)).bind fun t3 =>
  (pG t2 true (some x0)).bind fun t4 =>
  (pG t2 true (pBin .leq false t3 t4)).bind fun t5 =>
  (pPick t2 t5 (vb false)).bind fun t6 =>
  (pBool t6).bind fun t7 =>
  brn t7 (
    (pIndexAddr 2 x4 x2).bind fun t8 =>
    (pLoadN 2 t8).bind fun t9 =>
    (pBin .sub false x0 x1).bind fun t10 =>
    ((G 152 [t9, t10]).bind (fin false)).bind fun t11 =>
    (pBin .add false x1 t11).bind fun t12 =>
    (pBin .add false x2 (vi 1)).bind fun t13 =>
    L152_0 x0 t12 t13 x3 x4) (
    some ((x1, []))) :=
  (H_eq Tryz.func152 rfl).trans (by kernel_rfl)
theorem g153 (a0 : A) : G 153 [a0] =
  (pCells 2 a0).bind fun t0 =>
  L153_0 (vi 0) (vi 0) (cGet t0 0) (cGet t0 1) :=
  (G_eq rfl Tryz.func153 rfl rfl).trans (by kernel_rfl)
theorem l153_0 (x0 x1 x2 x3 : A) : L153_0 x0 x1 x2 x3 =
  (pLenL x3).bind fun t1 =>
  (pBin .lss false x1 t1).bind fun t2 =>
  (pBool t2).bind fun t3 =>
  brn t3 (
    (pIndexAddr 2 x3 x1).bind fun t4 =>
    (pLoadN 2 t4).bind fun t5 =>
    ((G 153 [t5]).bind (fin false)).bind fun t6 =>
    ((G 174 [x0, t6]).bind (fin false)).bind fun t7 =>
    (pBin .add false x1 (vi 1)).bind fun t8 =>
    L153_0 t7 t8 x2 x3) (
    (pBin .add false x0 (vi 1)).bind fun t9 =>
    some ((t9, []))) :=
  (H_eq Tryz.func153 rfl).trans (by kernel_rfl)
theorem g161 (a0 : A) : G 161 [a0] =
  (pCells 2 a0).bind fun t0 =>
  (pLenL (cGet t0 1)).bind fun t1 =>
  L161_0 (vi 1) (cGet t0 1) t1 (vi 0) :=
  (G_eq rfl Tryz.func161 rfl rfl).trans (by kernel_rfl)
theorem l161_0 (x0 x1 x2 x3 : A) : L161_0 x0 x1 x2 x3 =
  (pBin .lss false x3 x2).bind fun t2 =>
  (pBool t2).bind fun t3 =>
  brn t3 (
    (pIndexAddr 2 x1 x3).bind fun t4 =>
    (pLoadN 2 t4).bind fun t5 =>
    (pCells 2 t5).bind fun t6 =>
    (pBin .gtr false x0 (vi 30)).bind fun t7 =>
    (pBool t7).bind fun t8 =>
    brn t8 (
      some ((x0, []))) (
      ((G 161 [A.agg [cGet t6 0, cGet t6 1]]).bind (fin false)).bind fun t9 =>
      (pBin .add false x0 t9).bind fun t10 =>
      (pBin .add false x3 (vi 1)).bind fun t11 =>
      L161_0 t10 x1 x2 t11)) (
    some ((x0, []))) :=
  (H_eq Tryz.func161 rfl).trans (by kernel_rfl)
theorem g162 (a0 : A) : G 162 [a0] =
  (pCells 2 a0).bind fun t0 =>
  (pLenL (cGet t0 1)).bind fun t1 =>
  L162_0 (vi 0) (cGet t0 1) t1 (vi 0) :=
  (G_eq rfl Tryz.func162 rfl rfl).trans (by kernel_rfl)
theorem l162_0 (x0 x1 x2 x3 : A) : L162_0 x0 x1 x2 x3 =
  (pBin .lss false x3 x2).bind fun t2 =>
  (pBool t2).bind fun t3 =>
  brn t3 (
    (pIndexAddr 2 x1 x3).bind fun t4 =>
    (pLoadN 2 t4).bind fun t5 =>
    (pCells 2 t5).bind fun t6 =>
    ((G 162 [A.agg [cGet t6 0, cGet t6 1]]).bind (fin false)).bind fun t7 =>
    (pMax x0 t7).bind fun t8 =>
    (pBin .add false x3 (vi 1)).bind fun t9 =>
    L162_0 t8 x1 x2 t9) (
    (pBin .add false x0 (vi 1)).bind fun t10 =>
    some ((t10, []))) :=
  (H_eq Tryz.func162 rfl).trans (by kernel_rfl)
theorem g163 (a0 : A) : G 163 [a0] =
  (pLenS a0).bind fun t0 =>
  L163_0 a0 t0 (vi 0) :=
  (G_eq rfl Tryz.func163 rfl rfl).trans (by kernel_rfl)
theorem l163_0 (x0 x1 x2 : A) : L163_0 x0 x1 x2 =
  (pBin .lss false x2 x1).bind fun t1 =>
  (pBool t1).bind fun t2 =>
  brn t2 (
    (pBin .eql false x2 (vi 0)).bind fun t3 =>
    (pG t3 true (some x0)).bind fun t4 =>
    (pG t3 true (some x2)).bind fun t5 =>
    (pG t3 true (pIndexS t4 t5)).bind fun t6 =>
    (pG t3 true ((G 169 [t6]).bind (fin false))).bind fun t7 =>
    (pG t3 true (pUn .not t7)).bind fun t8 =>
    (pPick t3 t8 (vb false)).bind fun t9 =>
    (pG t9 false (some x2)).bind fun t10 =>
    (pG t9 false (pBin .gtr false t10 (vi 0))).bind fun t11 =>
    (pG t9 false (some t11)).bind fun t12 =>
    (pG t12 true (some x0)).bind fun t13 =>
    (pG t12 true (some x2)).bind fun t14 =>
    (pG t12 true (pIndexS t13 t14)).bind fun t15 =>
    (pG t12 true ((G 136 [t15]).bind (fin false))).bind fun t16 =>
    (pG t12 true (pUn .not t16)).bind fun t17 =>
    (pG t9 false (pPick t12 t17 (vb false))).bind fun t18 =>
    (pG t9 false (some t18)).bind fun t19 =>
    (pG t19 true (some x0)).bind fun t20 =>
    (pG t19 true (some x2)).bind fun t21 =>
    (pG t19 true (pIndexS t20 t21)).bind fun t22 =>
    (pG t19 true ((G 137 [t22]).bind (fin false))).bind fun t23 =>
    (pG t19 true (pUn .not t23)).bind fun t24 =>
    (pG t9 false (pPick t19 t24 (vb false))).bind fun t25 =>
    (pPick t9 (vb true) t25).bind fun t26 =>
    (pBool t26).bind fun t27 =>
    brn t27 (
      some ((vb false, []))) (
      (pBin .add false x2 (vi 1)).bind fun t28 =>
      L163_0 x0 x1 t28)) (
    (pLenS x0).bind fun t29 =>
    ((G 93 [t29, vi 1, vi 4]).bind (fin false)).bind fun t30 =>
    some ((t30, []))) :=
  (H_eq Tryz.func163 rfl).trans (by kernel_rfl)
theorem g164 (a0 : A) : G 164 [a0] =
  (pCells 2 a0).bind fun t0 =>
  ((G 127 [A.agg [cGet t0 0, cGet t0 1]]).bind (fin false)).bind fun t1 =>
  (pUn .not t1).bind fun t2 =>
  some ((t2, [])) :=
  (G_eq rfl Tryz.func164 rfl rfl).trans (by kernel_rfl)
theorem g168 (a0 a1 : A) : G 168 [a0, a1] =
  (pCells 2 a1).bind fun t0 =>
  ((G 90 [cGet t0 0]).bind (fin false)).bind fun t1 =>
  (pBool t1).bind fun t2 =>
  brn t2 (
    ((G 182 [a0, cGet t0 0]).bind (fin false)).bind fun t3 =>
    some ((t3, []))) (
    L168_0 a0 (vi 0) (cGet t0 0) (cGet t0 1)) :=
  (G_eq rfl Tryz.func168 rfl rfl).trans (by kernel_rfl)
theorem l168_0 (x0 x1 x2 x3 : A) : L168_0 x0 x1 x2 x3 =
  (pLenL x3).bind fun t4 =>
  (pBin .lss false x1 t4).bind fun t5 =>
  (pBool t5).bind fun t6 =>
  brn t6 (
    (pIndexAddr 2 x3 x1).bind fun t7 =>
    (pLoadN 2 t7).bind fun t8 =>
    ((G 168 [x0, t8]).bind (fin false)).bind fun t9 =>
    (pBin .add false x1 (vi 1)).bind fun t10 =>
    L168_0 t9 t10 x2 x3) (
    some ((x0, []))) :=
  (H_eq Tryz.func168 rfl).trans (by kernel_rfl)
theorem g169 (a0 : A) : G 169 [a0] =
  (pBin .geq false a0 (vy 65)).bind fun t0 =>
  (pG t0 true (some a0)).bind fun t1 =>
  (pG t0 true (pBin .leq false t1 (vy 90))).bind fun t2 =>
  (pPick t0 t2 (vb false)).bind fun t3 =>
  some ((t3, [])) :=
  (G_eq rfl Tryz.func169 rfl rfl).trans (by kernel_rfl)
theorem c170_0 (x0 x1 : A) (r0 : List (List A)) : C170_0 x0 x1 r0 =
  brn (okA x0) (
    brn (okA x1) (
      (pLenL x1).bind fun t0 =>
      (pBin .eql false t0 (vi 0)).bind fun t1 =>
      (pWant t1 true).bind fun t2 =>
      (pG t1 true ((G 140 [A.agg [x0, x1]]).bind (fin false))).bind fun t3 =>
      (pPick t1 t3 (vb false)).bind fun t4 =>
      (pBool t4).bind fun t5 =>
      brn t5 (
        ((G 95 [A.sl 1 r0, x0]).bind (fin true)).bind fun t6 =>
        (pUn .not t6).bind fun t7 =>
        (pBool t7).bind fun t8 =>
        brn t8 (
          brn (okA x0) (
            brn (pFit ((rLenN r0) + (rLenN [[x0]])) 16) (
              some ((A.top, [A.sl 1 (rApp r0 [[x0]])]))) (
              none)) (
            none)) (
          some ((A.top, [A.sl 1 r0])))) (
        (pLenL x1).bind fun t9 =>
        L170c0_0 x1 t9 (vi 0) r0)) (
      none)) (
    none) :=
  (V_eq rfl Tryz.func170 rfl rfl).trans (by kernel_rfl)
theorem l170c0_0 (x0 x1 x2 : A) (r0 : List (List A)) : L170c0_0 x0 x1 x2 r0 =
  (pBin .lss false x2 x1).bind fun t10 =>
  (pBool t10).bind fun t11 =>
  brn t11 (
    (pIndexAddr 2 x0 x2).bind fun t12 =>
    (pLoadN 2 t12).bind fun t13 =>
    (pCells 2 t13).bind fun t14 =>
    (C170_0 (cGet t14 0) (cGet t14 1) r0).bind fun t15 =>
    (hR 1 t15 0).bind fun t16 =>
    (pBin .add false x2 (vi 1)).bind fun t17 =>
    L170c0_1 x0 x1 t17 t16) (
    some ((A.top, [A.sl 1 r0]))) :=
  (H_eq Tryz.func170 rfl).trans (by kernel_rfl)
theorem l170c0_1 (x0 x1 x2 : A) (r0 : List (List A)) : L170c0_1 x0 x1 x2 r0 =
  (pBin .lss false x2 x1).bind fun t18 =>
  (pBool t18).bind fun t19 =>
  brn t19 (
    (pIndexAddr 2 x0 x2).bind fun t20 =>
    (pLoadN 2 t20).bind fun t21 =>
    (pCells 2 t21).bind fun t22 =>
    (C170_0 (cGet t22 0) (cGet t22 1) r0).bind fun t23 =>
    (hR 1 t23 0).bind fun t24 =>
    (pBin .add false x2 (vi 1)).bind fun t25 =>
    L170c0_1 x0 x1 t25 t24) (
    some ((A.top, [A.sl 1 r0]))) :=
  (H_eq Tryz.func170 rfl).trans (by kernel_rfl)
theorem c171_0 (r0 : List (List A)) : C171_0 r0 = Go.Proofs.YtencikloakamfaaGreat.Abs.sortX [V.row 0] [.row 1 r0] :=
  X_eq rfl
theorem g172 (a0 : A) : G 172 [a0] =
  (pCells 2 a0).bind fun t0 =>
  (pBin .eql false (cGet t0 0) (sv [])).bind fun t1 =>
  some ((t1, [])) :=
  (G_eq rfl Tryz.func172 rfl rfl).trans (by kernel_rfl)
theorem c173_0 (x0 : A) : C173_0 x0 =
  (pBin .lss false x0 (vi 0)).bind fun t0 =>
  (pBool t0).bind fun t1 =>
  brn t1 (
    none) (
    (pBin .sub false (vi 0) (vi 0)).bind fun t2 =>
    (pBin .sub false x0 t2).bind fun t3 =>
    (pBin .gtr false t3 (vi 0)).bind fun t4 =>
    (pBool t4).bind fun t5 =>
    brn t5 (
      (pB 0 0 (some (vi 0))).bind fun t6 =>
      (pMake 40 t3 t3).bind fun t7 =>
      brn (pFit t7 40) (
        (pB (rCnt (rRep t7 [sv [], A.sl 2 []])) (rRem (rRep t7 [sv [], A.sl 2 []]) 0) (some (vi 0))).bind fun t8 =>
        some ((A.top, [A.sl 2 (List.take (nSub t8 0) (rRep t7 [sv [], A.sl 2 []]))]))) (
        none)) (
      some ((A.top, [A.sl 2 []])))) :=
  (V_eq rfl Tryz.func173 rfl rfl).trans (by kernel_rfl)
theorem g174 (a0 a1 : A) : G 174 [a0, a1] =
  (pBin .gtr false a0 a1).bind fun t0 =>
  (pBool t0).bind fun t1 =>
  brn t1 (
    some ((a0, []))) (
    some ((a1, []))) :=
  (G_eq rfl Tryz.func174 rfl rfl).trans (by kernel_rfl)
theorem g176 (a0 a1 a2 : A) : G 176 [a0, a1, a2] =
  (pCells 3 a0).bind fun t0 =>
  (pCells 2 a1).bind fun t1 =>
  (pCells 2 a2).bind fun t2 =>
  ((G 46 [A.agg [cGet t0 0, cGet t0 1, cGet t0 2]]).bind (fin false)).bind fun t3 =>
  (pUn .not t3).bind fun t4 =>
  (pWant t4 false).bind fun t5 =>
  (pWant t4 false).bind fun t6 =>
  (pG t4 false ((G 102 [A.agg [cGet t0 0, cGet t0 1, cGet t0 2], A.agg [cGet t1 0, cGet t1 1]]).bind (fin false))).bind fun t7 =>
  (pG t4 false (pUn .not t7)).bind fun t8 =>
  (pPick t4 (vb true) t8).bind fun t9 =>
  (pWant t9 false).bind fun t10 =>
  (pWant t9 false).bind fun t11 =>
  (pG t9 false ((G 102 [A.agg [cGet t0 0, cGet t0 1, cGet t0 2], A.agg [cGet t2 0, cGet t2 1]]).bind (fin false))).bind fun t12 =>
  (pG t9 false (pUn .not t12)).bind fun t13 =>
  (pPick t9 (vb true) t13).bind fun t14 =>
  (pBool t14).bind fun t15 =>
  brn t15 (
    some ((A.tup [vi 0, vb false], []))) (
    ((G 75 [A.agg [cGet t1 0, cGet t1 1], A.agg [cGet t2 0, cGet t2 1]]).bind (fin false)).bind fun t16 =>
    ((G 48 [A.agg [cGet t0 0, cGet t0 1, cGet t0 2], A.agg [cGet t1 0, cGet t1 1], A.agg [cGet t2 0, cGet t2 1]]).bind (fin false)).bind fun t17 =>
    ((G 48 [A.agg [cGet t0 0, cGet t0 1, cGet t0 2], A.agg [cGet t2 0, cGet t2 1], A.agg [cGet t1 0, cGet t1 1]]).bind (fin false)).bind fun t18 =>
    ((G 105 [t16, t17, t18]).bind (fin false)).bind fun t19 =>
    some ((A.tup [t19, vb true], []))) :=
  (G_eq rfl Tryz.func176 rfl rfl).trans (by kernel_rfl)
theorem g182 (a0 a1 : A) : G 182 [a0, a1] =
  L182_0 a0 a1 (vi 0) :=
  (G_eq rfl Tryz.func182 rfl rfl).trans (by kernel_rfl)
theorem l182_0 (x0 x1 x2 : A) : L182_0 x0 x1 x2 =
  (pLenL x0).bind fun t0 =>
  (pBin .lss false x2 t0).bind fun t1 =>
  (pG t1 true (some x0)).bind fun t2 =>
  (pG t1 true (some x2)).bind fun t3 =>
  (pG t1 true (pIndexAddr 1 t2 t3)).bind fun t4 =>
  (pG t1 true (pLoadP t4)).bind fun t5 =>
  (pG t1 true (some x1)).bind fun t6 =>
  (pG t1 true (pBin .lss false t5 t6)).bind fun t7 =>
  (pPick t1 t7 (vb false)).bind fun t8 =>
  (pBool t8).bind fun t9 =>
  brn t9 (
    (pBin .add false x2 (vi 1)).bind fun t10 =>
    L182_0 x0 x1 t10) (
    (pLenL x0).bind fun t11 =>
    (pBin .lss false x2 t11).bind fun t12 =>
    (pG t12 true (some x0)).bind fun t13 =>
    (pG t12 true (some x2)).bind fun t14 =>
    (pG t12 true (pIndexAddr 1 t13 t14)).bind fun t15 =>
    (pG t12 true (pLoadP t15)).bind fun t16 =>
    (pG t12 true (some x1)).bind fun t17 =>
    (pG t12 true (pBin .eql false t16 t17)).bind fun t18 =>
    (pPick t12 t18 (vb false)).bind fun t19 =>
    (pBool t19).bind fun t20 =>
    brn t20 (
      some ((x0, []))) (
      (pSlice 1 x0 none (some x2)).bind fun t21 =>
      (pRows 1 t21).bind fun t22 =>
      brn (pFit (rLenN t22) 16) (
        brn (okA x1) (
          brn (pFit ((rLenN t22) + (rLenN [[x1]])) 16) (
            (pSlice 1 x0 (some x2) none).bind fun t23 =>
            (pRows 1 t23).bind fun t24 =>
            brn (pFit ((rLenN (rApp t22 [[x1]])) + (rLenN t24)) 16) (
              some ((A.sl 1 (rApp (rApp t22 [[x1]]) t24), []))) (
              none)) (
            none)) (
          none)) (
        none))) :=
  (H_eq Tryz.func182 rfl).trans (by kernel_rfl)
end Go.Proofs.YtencikloakamfaaGreat
