/- WRITTEN BY A PROGRAM (gen.py): what functions come to, as equations. -/
import Derived.Test.YtencikloakamfaaK
import Derived.KernelRfl
set_option linter.unusedVariables false
namespace Go.Proofs.Ytencikloakamfaa
open Go Go.RowKit Go.Proofs.Ytencikloakamfaa.Abs
noncomputable def L11_0 (x0 x1 x2 : A) : Option Out := MM K (.head 11 [1, 1, 0, 1, 0] [V.d x0, V.d x1, V.top, V.top, V.top, V.d x2, V.top, V.top, V.top, V.top, V.top, V.top, V.top, V.top, V.top, V.top, V.top, V.top, V.top, V.top, V.top, V.top, V.top, V.top, V.top, V.top] [] none)
noncomputable def L17_0 (x0 x1 : A) (r0 : List (List A)) : Option Out := MM K (.head 17 [1, 1, 0, 1, 0] [V.d x0, V.top, V.top, V.row 0, V.d x1, V.top, V.top, V.top, V.top, V.top, V.top, V.top, V.top, V.top, V.top, V.top, V.top, V.top, V.top, V.top, V.top, V.top] [.row 1 r0] none)
noncomputable def L51_0 (x0 x1 x2 : A) : Option Out := MM K (.head 51 [1, 1, 1, 0, 1, 0] [V.d x0, V.d x1, V.top, V.top, V.top, V.d x2, V.top, V.top, V.top, V.top, V.top, V.top, V.top, V.top, V.top, V.top, V.top, V.top, V.top, V.top, V.top, V.top, V.top, V.top, V.top, V.top, V.top] [] none)
noncomputable def L53_0 (x0 x1 : A) (r0 : List (List A)) : Option Out := MM K (.head 53 [1, 1, 0, 1, 0] [V.d x0, V.top, V.top, V.row 0, V.d x1, V.top, V.top, V.top, V.top, V.top, V.top, V.top, V.top, V.top, V.top, V.top, V.top, V.top, V.top, V.top, V.top, V.top, V.top] [.row 2 r0] none)
noncomputable def L57_0 (x0 x1 x2 : A) : Option Out := MM K (.head 57 [1, 1, 0, 1, 0] [V.d x0, V.d x1, V.top, V.top, V.top, V.d x2, V.top, V.top, V.top, V.top, V.top, V.top, V.top, V.top, V.top, V.top, V.top, V.top, V.top, V.top, V.top, V.top, V.top, V.top, V.top, V.top, V.top] [] none)
noncomputable def L77_0 (x0 x1 x2 x3 x4 x5 x6 : A) (r0 : List (List A)) : Option Out := MM K (.head 77 [1, 1, 1, 1, 0, 1, 0] [V.top, V.top, V.ptr 0 0, V.ptr 1 0, V.top, V.ptr 2 0, V.d x0, V.top, V.top, V.top, V.top, V.top, V.top, V.top, V.top, V.top, V.top, V.top, V.top, V.top, V.top, V.top, V.top, V.top, V.top, V.top, V.top, V.top, V.top, V.top, V.top, V.top, V.top, V.top, V.top, V.top, V.top, V.top, V.top, V.top, V.top, V.top, V.top, V.top, V.top, V.top, V.top, V.top, V.top, V.top] [.box [V.d x1, V.d x2], .box [V.d x3, V.d x4], .box [V.d x5, V.row 3, V.d x6], .row 1 r0] none)
noncomputable def L80_0 (x0 x1 x2 : A) : Option Out := MM K (.head 80 [1, 0, 1, 0] [V.d x0, V.top, V.top, V.top, V.top, V.d x1, V.d x2, V.top, V.top, V.top, V.top, V.top, V.top, V.top, V.top, V.top, V.top, V.top, V.top, V.top, V.top, V.top, V.top, V.top, V.top, V.top, V.top, V.top, V.top, V.top, V.top, V.top, V.top, V.top, V.top, V.top, V.top, V.top, V.top, V.top, V.top, V.top, V.top, V.top, V.top, V.top, V.top, V.top] [] none)
noncomputable def C83_0 (x0 x1 : A) (r0 : List (List A)) : Option Out := MM K (.callv 83 [V.row 0, V.agg [V.d x0, V.d x1]] [.row 1 r0])
noncomputable def L83c0_0 (x0 x1 x2 : A) (r0 : List (List A)) : Option Out := MM K (.head 83 [1, 1, 0, 1, 0] [V.row 0, V.top, V.top, V.top, V.top, V.top, V.top, V.top, V.top, V.top, V.top, V.top, V.top, V.top, V.top, V.top, V.top, V.top, V.top, V.top, V.top, V.top, V.top, V.d x0, V.d x1, V.d x2, V.top, V.top, V.top, V.top, V.top, V.top, V.top, V.top] [.row 1 r0, .gone] (some [1]))
noncomputable def L83c0_1 (x0 x1 x2 : A) (r0 : List (List A)) : Option Out := MM K (.head 83 [1, 1, 0, 1, 0] [V.row 0, V.top, V.top, V.top, V.top, V.top, V.top, V.top, V.top, V.top, V.top, V.top, V.top, V.top, V.top, V.top, V.top, V.top, V.top, V.top, V.top, V.top, V.top, V.d x0, V.d x1, V.d x2, V.top, V.top, V.top, V.top, V.top, V.top, V.top, V.top] [.row 1 r0] (some [0]))
noncomputable def C84_0 (r0 : List (List A)) : Option Out := MM K (.callv 84 [V.row 0] [.row 1 r0])
noncomputable def C85_0 (x0 : A) (r0 : List (List A)) : Option Out := MM K (.callv 85 [V.row 0, V.d x0] [.row 1 r0])
noncomputable def L85c0_0 (x0 : A) (r0 r1 : List (List A)) : Option Out := MM K (.head 85 [1, 1, 1, 1, 1, 1, 0, 0] [V.top, V.top, V.top, V.top, V.top, V.top, V.top, V.row 0, V.d x0, V.top, V.top, V.top, V.top, V.top, V.top, V.top, V.top, V.top, V.top, V.top, V.top, V.top, V.top, V.top, V.top, V.top, V.top, V.top, V.top, V.top, V.top, V.top, V.top, V.top, V.top, V.top, V.top, V.top, V.top, V.top, V.top, V.top, V.top, V.top, V.top, V.top, V.top, V.top] [.row 1 r0, .row 1 r1] (some [1]))
noncomputable def L100_0 (x0 x1 x2 : A) : Option Out := MM K (.head 100 [1, 1, 1, 0, 1, 0] [V.top, V.ptr 0 0, V.top, V.d x0, V.top, V.top, V.top, V.top, V.top, V.top, V.top, V.top, V.top, V.top, V.top, V.top, V.top, V.top, V.top, V.top, V.top, V.top, V.top, V.top, V.top, V.top, V.top, V.top, V.top, V.top, V.top, V.top, V.top, V.top, V.top] [.box [V.d x1, V.d x2]] none)
noncomputable def L101_0 (x0 x1 : A) : Option Out := MM K (.head 101 [1, 1, 1, 0, 1, 0] [V.d x0, V.top, V.top, V.d x1, V.top, V.top, V.top, V.top, V.top, V.top, V.top, V.top, V.top, V.top, V.top, V.top, V.top, V.top, V.top, V.top, V.top, V.top, V.top, V.top, V.top, V.top, V.top, V.top, V.top, V.top, V.top, V.top, V.top, V.top, V.top, V.top, V.top, V.top, V.top, V.top, V.top, V.top, V.top, V.top, V.top] [] none)
noncomputable def L103_0 (x0 x1 x2 x3 x4 : A) : Option Out := MM K (.head 103 [1, 1, 0, 1, 0] [V.top, V.top, V.ptr 0 0, V.ptr 1 0, V.top, V.d x0, V.top, V.top, V.top, V.top, V.top, V.top, V.top, V.top, V.top, V.top, V.top, V.top, V.top, V.top, V.top, V.top, V.top, V.top, V.top, V.top, V.top, V.top, V.top, V.top, V.top, V.top, V.top, V.top, V.top, V.top, V.top, V.top, V.top] [.box [V.d x1, V.d x2], .box [V.d x3, V.d x4]] none)
noncomputable def L104_0 (x0 x1 x2 x3 : A) : Option Out := MM K (.head 104 [1, 1, 0, 1, 0] [V.d x0, V.top, V.top, V.ptr 0 0, V.top, V.d x1, V.top, V.top, V.top, V.top, V.top, V.top, V.top, V.top, V.top, V.top, V.top, V.top, V.top, V.top, V.top, V.top, V.top, V.top, V.top, V.top, V.top, V.top, V.top] [.box [V.d x2, V.d x3]] none)
noncomputable def L106_0 (x0 x1 x2 x3 : A) : Option Out := MM K (.head 106 [1, 1, 0, 1, 0] [V.top, V.top, V.top, V.d x0, V.top, V.top, V.top, V.d x1, V.d x2, V.d x3, V.top, V.top, V.top, V.top, V.top, V.top, V.top, V.top, V.top, V.top, V.top, V.top] [] none)
noncomputable def L107_0 (x0 x1 x2 x3 : A) : Option Out := MM K (.head 107 [1, 1, 0, 1, 0] [V.top, V.top, V.top, V.d x0, V.top, V.top, V.top, V.d x1, V.d x2, V.d x3, V.top, V.top, V.top, V.top, V.top, V.top, V.top, V.top, V.top, V.top] [] none)
noncomputable def L108_0 (x0 x1 x2 : A) : Option Out := MM K (.head 108 [1, 0, 1, 0] [V.d x0, V.top, V.top, V.top, V.top, V.d x1, V.d x2, V.top, V.top, V.top, V.top, V.top, V.top, V.top, V.top, V.top, V.top, V.top, V.top, V.top, V.top, V.top, V.top, V.top, V.top, V.top, V.top, V.top, V.top, V.top, V.top, V.top, V.top, V.top, V.top, V.top, V.top, V.top, V.top, V.top] [] none)
noncomputable def L115_0 (x0 x1 x2 x3 x4 : A) : Option Out := MM K (.head 115 [1, 1, 0, 1, 0] [V.top, V.d x0, V.d x1, V.top, V.top, V.top, V.top, V.top, V.top, V.top, V.top, V.top, V.top, V.top, V.top, V.d x2, V.d x3, V.d x4, V.top, V.top, V.top, V.top, V.top, V.top, V.top, V.top, V.top, V.top, V.top, V.top, V.top, V.top] [] none)
noncomputable def L120_0 (x0 x1 x2 x3 x4 x5 x6 x7 x8 x9 : A) : Option Out := MM K (.head 120 [1, 0, 1, 0] [V.top, V.top, V.top, V.ptr 0 0, V.ptr 1 0, V.ptr 2 0, V.top, V.top, V.top, V.top, V.top, V.top, V.top, V.top, V.top, V.d x0, V.d x1, V.d x2, V.top, V.top, V.top, V.top, V.top, V.top, V.top, V.top, V.top, V.top, V.top, V.top, V.top, V.top, V.top, V.top, V.top, V.top, V.top, V.top, V.top, V.top, V.top, V.top, V.top, V.top, V.top, V.top, V.top, V.top, V.top, V.top, V.top, V.top, V.top, V.top, V.top, V.top, V.top, V.top, V.top, V.top, V.top, V.top, V.top, V.top, V.top, V.top, V.top] [.box [V.d x3, V.d x4, V.d x5], .box [V.d x6, V.d x7], .box [V.d x8, V.d x9]] none)
noncomputable def L127_0 (x0 x1 x2 x3 x4 : A) : Option Out := MM K (.head 127 [1, 1, 0, 1, 0] [V.top, V.d x0, V.ptr 0 0, V.top, V.top, V.d x1, V.d x2, V.top, V.top, V.top, V.top, V.top, V.top, V.top, V.top, V.top, V.top, V.top, V.top, V.top, V.top, V.top, V.top, V.top, V.top, V.top, V.top, V.top, V.top, V.top, V.top] [.box [V.d x3, V.d x4]] none)
noncomputable def L128_0 (x0 x1 x2 x3 : A) : Option Out := MM K (.head 128 [1, 1, 0, 1, 0] [V.top, V.ptr 0 0, V.top, V.d x0, V.d x1, V.top, V.top, V.top, V.top, V.top, V.top, V.top, V.top, V.top, V.top, V.top, V.top, V.top, V.top, V.top, V.top, V.top] [.box [V.d x2, V.d x3]] none)
noncomputable def L129_0 (x0 x1 : A) : Option Out := MM K (.head 129 [1, 1, 0, 1, 0] [V.d x0, V.top, V.top, V.d x1, V.top, V.top, V.top, V.top, V.top, V.top, V.top, V.top, V.top, V.top, V.top, V.top, V.top, V.top, V.top, V.top, V.top, V.top, V.top, V.top, V.top, V.top, V.top, V.top, V.top] [] none)
noncomputable def L131_0 (x0 x1 x2 : A) : Option Out := MM K (.head 131 [1, 1, 0, 0] [V.d x0, V.d x1, V.top, V.top, V.top, V.d x2, V.top, V.top, V.top, V.top, V.top, V.top, V.top, V.top, V.top, V.top, V.top, V.top, V.top, V.top, V.top, V.top, V.top, V.top, V.top, V.top, V.top, V.top, V.top, V.top, V.top, V.top, V.top, V.top, V.top, V.top, V.top, V.top, V.top, V.top, V.top, V.top, V.top, V.top, V.top] [] none)
noncomputable def L132_0 (x0 x1 x2 x3 : A) : Option Out := MM K (.head 132 [1, 1, 0, 1, 0] [V.top, V.ptr 0 0, V.top, V.d x0, V.top, V.top, V.top, V.top, V.top, V.top, V.top, V.top, V.top, V.top, V.top, V.top, V.top, V.top, V.top, V.top, V.top, V.top, V.top, V.top, V.top, V.top, V.top, V.top, V.top, V.top, V.top, V.top, V.top, V.top, V.top, V.top, V.top, V.top, V.top, V.top, V.top, V.top, V.top, V.top, V.top, V.top, V.top, V.top, V.top, V.top, V.top, V.top, V.top, V.top, V.top, V.top, V.top, V.top, V.top, V.top, V.top] [.box [V.d x1, V.d x2, V.d x3]] none)
noncomputable def L137_0 (x0 x1 x2 x3 : A) : Option Out := MM K (.head 137 [1, 0, 1, 0] [V.d x0, V.d x1, V.top, V.top, V.top, V.top, V.top, V.d x2, V.d x3, V.top, V.top, V.top, V.top, V.top, V.top, V.top, V.top, V.top, V.top] [] none)
noncomputable def L138_0 (x0 x1 x2 x3 : A) : Option Out := MM K (.head 138 [1, 0, 1, 0] [V.d x0, V.d x1, V.top, V.top, V.top, V.top, V.top, V.d x2, V.d x3, V.top, V.top, V.top, V.top, V.top, V.top, V.top, V.top, V.top, V.top] [] none)
noncomputable def L151_0 (x0 x1 x2 x3 x4 : A) : Option Out := MM K (.head 151 [1, 1, 1, 0, 1, 0] [V.top, V.d x0, V.top, V.top, V.top, V.d x1, V.top, V.top, V.top, V.top, V.top, V.top, V.top, V.d x2, V.d x3, V.d x4, V.top, V.top, V.top, V.top, V.top, V.top, V.top, V.top, V.top, V.top] [] none)
noncomputable def L152_0 (x0 x1 x2 x3 x4 x5 x6 : A) : Option Out := MM K (.head 152 [1, 1, 1, 0, 1, 0] [V.top, V.top, V.ptr 0 0, V.top, V.top, V.d x0, V.top, V.top, V.top, V.top, V.top, V.top, V.top, V.top, V.top, V.top, V.top, V.top, V.top, V.top, V.top, V.top, V.d x1, V.d x2, V.d x3, V.top, V.top, V.top, V.top, V.top, V.top, V.top, V.top, V.top, V.top] [.box [V.d x4, V.d x5, V.d x6]] none)
noncomputable def L155_0 (x0 x1 x2 x3 x4 x5 x6 : A) (r0 r1 : List (List A)) : Option Out := MM K (.head 155 [1, 1, 0, 1, 0] [V.top, V.top, V.top, V.ptr 0 0, V.ptr 1 0, V.ptr 2 0, V.top, V.top, V.top, V.top, V.top, V.top, V.top, V.top, V.top, V.top, V.top, V.top, V.top, V.top, V.top, V.top, V.top, V.top, V.top, V.top, V.d x0, V.d x1, V.d x2, V.top, V.top, V.top, V.top, V.top, V.top, V.top, V.top, V.top, V.top, V.top, V.top, V.top, V.top, V.top, V.top, V.top, V.top, V.top, V.top, V.top] [.box [V.d x3, V.d x4], .box [V.d x5, V.row 3], .box [V.d x6, V.row 4], .row 2 r0, .row 2 r1] none)
noncomputable def L157_0 (x0 x1 x2 : A) : Option Out := MM K (.head 157 [1, 0, 1, 0] [V.d x0, V.d x1, V.top, V.top, V.top, V.d x2, V.top, V.top, V.top, V.top, V.top, V.top, V.top, V.top, V.top, V.top, V.top, V.top] [] none)
noncomputable def L158_0 (x0 x1 x2 x3 x4 x5 : A) : Option Out := MM K (.head 158 [1, 1, 0, 1, 0] [V.top, V.top, V.ptr 0 0, V.ptr 1 0, V.top, V.d x0, V.top, V.top, V.top, V.top, V.top, V.top, V.top, V.top, V.top, V.top, V.top, V.top, V.top, V.top, V.top, V.top, V.top, V.top, V.top, V.top, V.top, V.top, V.top, V.top, V.top, V.top] [.box [V.d x1, V.d x2, V.d x3], .box [V.d x4, V.d x5]] none)
noncomputable def L159_0 (x0 x1 x2 x3 x4 x5 : A) : Option Out := MM K (.head 159 [1, 1, 0, 1, 0] [V.top, V.top, V.ptr 0 0, V.ptr 1 0, V.top, V.d x0, V.d x1, V.top, V.top, V.top, V.top, V.top, V.top, V.top, V.top, V.top, V.top, V.top, V.top, V.top, V.top, V.top, V.top, V.top, V.top, V.top, V.top, V.top] [.box [V.d x2, V.d x3], .box [V.d x4, V.d x5]] none)
noncomputable def L160_0 (x0 x1 x2 x3 x4 x5 x6 : A) : Option Out := MM K (.head 160 [1, 1, 1, 0, 1, 0] [V.top, V.top, V.ptr 0 0, V.ptr 1 0, V.top, V.d x0, V.d x1, V.top, V.top, V.top, V.top, V.top, V.top, V.top, V.top, V.top, V.top, V.top, V.top, V.top, V.top, V.top, V.top, V.top, V.top, V.top, V.top, V.top, V.top, V.top, V.top, V.top, V.top, V.top, V.top, V.top, V.top, V.top] [.box [V.d x2, V.d x3, V.d x4], .box [V.d x5, V.d x6]] none)
noncomputable def L162_0 (x0 x1 x2 x3 x4 : A) : Option Out := MM K (.head 162 [1, 0, 1, 0] [V.top, V.top, V.ptr 0 0, V.ptr 1 0, V.top, V.d x0, V.top, V.top, V.top, V.top, V.top, V.top, V.top, V.top, V.top, V.top, V.top, V.top, V.top, V.top, V.top, V.top, V.top, V.top, V.top, V.top] [.box [V.d x1, V.d x2], .box [V.d x3, V.d x4]] none)
noncomputable def C167_0 (x0 x1 : A) (r0 : List (List A)) : Option Out := MM K (.callv 167 [V.row 0, V.agg [V.d x0, V.d x1]] [.row 1 r0])
noncomputable def L167c0_0 (x0 x1 x2 : A) (r0 : List (List A)) : Option Out := MM K (.head 167 [1, 1, 0, 1, 0] [V.row 0, V.top, V.top, V.top, V.top, V.top, V.top, V.top, V.top, V.top, V.top, V.top, V.top, V.top, V.top, V.top, V.top, V.top, V.top, V.top, V.top, V.top, V.top, V.top, V.top, V.top, V.top, V.d x0, V.d x1, V.d x2, V.top, V.top, V.top, V.top, V.top, V.top, V.top, V.top] [.row 1 r0] (some [0]))
noncomputable def L167c0_1 (x0 x1 x2 : A) (r0 : List (List A)) : Option Out := MM K (.head 167 [1, 1, 0, 1, 0] [V.row 0, V.top, V.top, V.top, V.top, V.top, V.top, V.top, V.top, V.top, V.top, V.top, V.top, V.top, V.top, V.top, V.top, V.top, V.top, V.top, V.top, V.top, V.top, V.top, V.top, V.top, V.top, V.d x0, V.d x1, V.d x2, V.top, V.top, V.top, V.top, V.top, V.top, V.top, V.top] [.row 1 r0, .gone] (some [1]))
noncomputable def L168_0 (x0 x1 x2 x3 x4 : A) : Option Out := MM K (.head 168 [1, 0, 1, 0] [V.top, V.d x0, V.ptr 0 0, V.top, V.top, V.d x1, V.top, V.top, V.top, V.top, V.top, V.top, V.top, V.top, V.top, V.top, V.top, V.top, V.top, V.top, V.top] [.box [V.d x2, V.d x3, V.d x4]] none)
noncomputable def L170_0 (x0 x1 x2 x3 x4 : A) : Option Out := MM K (.head 170 [1, 1, 1, 0, 1, 0] [V.top, V.d x0, V.ptr 0 0, V.top, V.top, V.d x1, V.d x2, V.top, V.top, V.top, V.top, V.top, V.top, V.top, V.top, V.top, V.top, V.top, V.top, V.top, V.top, V.top, V.top, V.top, V.top, V.top, V.top, V.top] [.box [V.d x3, V.d x4]] none)
noncomputable def L172_0 (x0 x1 x2 x3 : A) : Option Out := MM K (.head 172 [1, 1, 0, 1, 0] [V.d x0, V.top, V.top, V.ptr 0 0, V.top, V.d x1, V.top, V.top, V.top, V.top, V.top, V.top, V.top, V.top, V.top, V.top, V.top, V.top, V.top, V.top, V.top, V.top, V.top, V.top, V.top, V.top, V.top, V.top] [.box [V.d x2, V.d x3]] none)
theorem g6 (a0 : A) : G 6 [a0] =
  (pCells 2 a0).bind fun t0 =>
  ((G 21 [A.agg [cGet t0 0, cGet t0 1], vi 1048576]).bind (fin false)).bind fun t1 =>
  (pBin .lss false t1 (vi 0)).bind fun t2 =>
  (pBool t2).bind fun t3 =>
  brn t3 (
    some ((vb true, []))) (
    ((G 23 [A.agg [cGet t0 0, cGet t0 1]]).bind (fin false)).bind fun t4 =>
    ((G 22 [t4]).bind (fin false)).bind fun t5 =>
    ((G 23 [A.agg [cGet t0 0, cGet t0 1]]).bind (fin false)).bind fun t6 =>
    (pCells 2 t6).bind fun t7 =>
    ((G 24 [A.agg [cGet t7 0, cGet t7 1]]).bind (fin false)).bind fun t8 =>
    (pBin .neq true t8 t5).bind fun t9 =>
    (pBool t9).bind fun t10 =>
    brn t10 (
      some ((vb false, []))) (
      ((G 23 [A.agg [cGet t0 0, cGet t0 1]]).bind (fin false)).bind fun t11 =>
      ((G 25 [A.agg [cGet t7 0, cGet t7 1], t11]).bind (fin false)).bind fun t12 =>
      (pUn .not t12).bind fun t13 =>
      (pBool t13).bind fun t14 =>
      brn t14 (
        some ((vb false, []))) (
        some ((vb true, []))))) :=
  (G_eq rfl Try.func6 rfl rfl).trans (by kernel_rfl)
theorem g11 (a0 a1 : A) : G 11 [a0, a1] =
  (pLenL a0).bind fun t0 =>
  (pLenL a1).bind fun t1 =>
  (pBin .neq false t0 t1).bind fun t2 =>
  (pBool t2).bind fun t3 =>
  brn t3 (
    some ((vb false, []))) (
    L11_0 a0 a1 (vi 0)) :=
  (G_eq rfl Try.func11 rfl rfl).trans (by kernel_rfl)
theorem l11_0 (x0 x1 x2 : A) : L11_0 x0 x1 x2 =
  (pLenL x0).bind fun t4 =>
  (pBin .lss false x2 t4).bind fun t5 =>
  (pBool t5).bind fun t6 =>
  brn t6 (
    (pIndexAddr 1 x0 x2).bind fun t7 =>
    (pLoadP t7).bind fun t8 =>
    (pIndexAddr 1 x1 x2).bind fun t9 =>
    (pLoadP t9).bind fun t10 =>
    (pBin .neq false t8 t10).bind fun t11 =>
    (pBool t11).bind fun t12 =>
    brn t12 (
      some ((vb false, []))) (
      (pBin .add false x2 (vi 1)).bind fun t13 =>
      L11_0 x0 x1 t13)) (
    some ((vb true, []))) :=
  (H_eq Try.func11 rfl).trans (by kernel_rfl)
theorem g17 (a0 : A) : G 17 [a0] =
  (pLenL a0).bind fun t0 =>
  (pMake 8 t0 t0).bind fun t1 =>
  L17_0 a0 (vi 0) (rRep t1 [vi 0]) :=
  (G_eq rfl Try.func17 rfl rfl).trans (by kernel_rfl)
theorem l17_0 (x0 x1 : A) (r0 : List (List A)) : L17_0 x0 x1 r0 =
  (pLenL x0).bind fun t2 =>
  (pBin .lss false x1 t2).bind fun t3 =>
  (pBool t3).bind fun t4 =>
  brn t4 (
    (pIndexAddr 1 x0 x1).bind fun t5 =>
    (pLoadP t5).bind fun t6 =>
    (pIx (rLenN r0) x1).bind fun t7 =>
    brn (okA t6) (
      (rGet r0 t7).bind fun t8 =>
      (pBin .add false x1 (vi 1)).bind fun t9 =>
      L17_0 x0 t9 (rSet r0 t7 (cOver t8 0 [t6]))) (
      none)) (
    some ((A.sl 1 r0, []))) :=
  (H_eq Try.func17 rfl).trans (by kernel_rfl)
theorem g21 (a0 a1 : A) : G 21 [a0, a1] =
  (pCells 2 a0).bind fun t0 =>
  (pLenS (cGet t0 0)).bind fun t1 =>
  (pBin .sub false a1 t1).bind fun t2 =>
  (pBin .lss false t2 (vi 0)).bind fun t3 =>
  (pBool t3).bind fun t4 =>
  brn t4 (
    some ((vi (-1), []))) (
    ((G 51 [cGet t0 1, t2]).bind (fin false)).bind fun t5 =>
    (pBin .lss false t5 (vi 0)).bind fun t6 =>
    (pBool t6).bind fun t7 =>
    brn t7 (
      some ((vi (-1), []))) (
      some ((t5, [])))) :=
  (G_eq rfl Try.func21 rfl rfl).trans (by kernel_rfl)
theorem g22 (a0 : A) : G 22 [a0] =
  (pCells 2 a0).bind fun t0 =>
  ((G 52 [A.agg [cGet t0 0, cGet t0 1]]).bind (fin false)).bind fun t1 =>
  some ((t1, [])) :=
  (G_eq rfl Try.func22 rfl rfl).trans (by kernel_rfl)
theorem g23 (a0 : A) : G 23 [a0] =
  (pCells 2 a0).bind fun t0 =>
  brn (okA (cGet t0 0)) (
    ((G 53 [cGet t0 1]).bind (fin false)).bind fun t1 =>
    brn (okA t1) (
      brn (okA (cGet t0 0)) (
        brn (okA t1) (
          some ((A.agg [cGet t0 0, t1], []))) (
          none)) (
        none)) (
      none)) (
    none) :=
  (G_eq rfl Try.func23 rfl rfl).trans (by kernel_rfl)
theorem g24 (a0 : A) : G 24 [a0] =
  (pCells 2 a0).bind fun t0 =>
  ((G 54 [A.agg [cGet t0 0, cGet t0 1]]).bind (fin false)).bind fun t1 =>
  (pWant t1 true).bind fun t2 =>
  (pG t1 true ((G 55 [A.agg [cGet t0 0, cGet t0 1]]).bind (fin false))).bind fun t3 =>
  (pPick t1 t3 (vb false)).bind fun t4 =>
  (pWant t4 true).bind fun t5 =>
  (pG t4 true (some (cGet t0 1))).bind fun t6 =>
  (pG t4 true (pIndexAddr 2 t6 (vi 0))).bind fun t7 =>
  (pG t4 true (pLoadN 2 t7)).bind fun t8 =>
  (pWant t4 true).bind fun t9 =>
  (pG t4 true (some (cGet t0 1))).bind fun t10 =>
  (pG t4 true (pIndexAddr 2 t10 (vi 1))).bind fun t11 =>
  (pG t4 true (pLoadN 2 t11)).bind fun t12 =>
  (pG t4 true ((G 56 [t8, t12]).bind (fin false))).bind fun t13 =>
  (pG t4 true (pBin .eql false t13 (vi 2))).bind fun t14 =>
  (pPick t4 t14 (vb false)).bind fun t15 =>
  some ((t15, [])) :=
  (G_eq rfl Try.func24 rfl rfl).trans (by kernel_rfl)
theorem g25 (a0 a1 : A) : G 25 [a0, a1] =
  (pCells 2 a0).bind fun t0 =>
  (pCells 2 a1).bind fun t1 =>
  (pBin .neq false (cGet t0 0) (cGet t1 0)).bind fun t2 =>
  (pBool t2).bind fun t3 =>
  brn t3 (
    some ((vb false, []))) (
    ((G 57 [cGet t0 1, cGet t1 1]).bind (fin false)).bind fun t4 =>
    (pUn .not t4).bind fun t5 =>
    (pBool t5).bind fun t6 =>
    brn t6 (
      some ((vb false, []))) (
      some ((vb true, [])))) :=
  (G_eq rfl Try.func25 rfl rfl).trans (by kernel_rfl)
theorem g26 (a0 a1 : A) : G 26 [a0, a1] =
  (pLenL a0).bind fun t0 =>
  (pBin .sub false a1 t0).bind fun t1 =>
  (pBin .lss false t1 (vi 0)).bind fun t2 =>
  (pBool t2).bind fun t3 =>
  brn t3 (
    some ((vi (-1), []))) (
    some ((t1, []))) :=
  (G_eq rfl Try.func26 rfl rfl).trans (by kernel_rfl)
theorem g35 (a0 a1 a2 : A) : G 35 [a0, a1, a2] =
  (pBin .geq false a0 a1).bind fun t0 =>
  (pG t0 true (some a0)).bind fun t1 =>
  (pG t0 true (some a2)).bind fun t2 =>
  (pG t0 true (pBin .leq false t1 t2)).bind fun t3 =>
  (pPick t0 t3 (vb false)).bind fun t4 =>
  some ((t4, [])) :=
  (G_eq rfl Try.func35 rfl rfl).trans (by kernel_rfl)
theorem g51 (a0 a1 : A) : G 51 [a0, a1] =
  (pLenL a0).bind fun t0 =>
  (pBin .sub false a1 t0).bind fun t1 =>
  (pBin .lss false t1 (vi 0)).bind fun t2 =>
  (pBool t2).bind fun t3 =>
  brn t3 (
    some ((vi (-1), []))) (
    L51_0 a0 t1 (vi 0)) :=
  (G_eq rfl Try.func51 rfl rfl).trans (by kernel_rfl)
theorem l51_0 (x0 x1 x2 : A) : L51_0 x0 x1 x2 =
  (pLenL x0).bind fun t4 =>
  (pBin .lss false x2 t4).bind fun t5 =>
  (pBool t5).bind fun t6 =>
  brn t6 (
    (pIndexAddr 2 x0 x2).bind fun t7 =>
    (pLoadN 2 t7).bind fun t8 =>
    ((G 21 [t8, x1]).bind (fin false)).bind fun t9 =>
    (pBin .lss false t9 (vi 0)).bind fun t10 =>
    (pBool t10).bind fun t11 =>
    brn t11 (
      some ((vi (-1), []))) (
      (pBin .add false x2 (vi 1)).bind fun t12 =>
      L51_0 x0 t9 t12)) (
    some ((x1, []))) :=
  (H_eq Try.func51 rfl).trans (by kernel_rfl)
theorem g52 (a0 : A) : G 52 [a0] =
  (pCells 2 a0).bind fun t0 =>
  ((G 76 [A.agg [cGet t0 0, cGet t0 1]]).bind (fin false)).bind fun t1 =>
  (pWant t1 true).bind fun t2 =>
  (pG t1 true (some (cGet t0 0))).bind fun t3 =>
  (pG t1 true (pBin .eql false t3 (sv [61]))).bind fun t4 =>
  (pPick t1 t4 (vb false)).bind fun t5 =>
  (pWant t5 true).bind fun t6 =>
  (pG t5 true (some (cGet t0 1))).bind fun t7 =>
  (pG t5 true (pIndexAddr 2 t7 (vi 0))).bind fun t8 =>
  (pG t5 true (pLoadN 2 t8)).bind fun t9 =>
  (pWant t5 true).bind fun t10 =>
  (pG t5 true (some (cGet t0 1))).bind fun t11 =>
  (pG t5 true (pIndexAddr 2 t11 (vi 1))).bind fun t12 =>
  (pG t5 true (pLoadN 2 t12)).bind fun t13 =>
  (pG t5 true ((G 77 [t9, t13]).bind (fin false))).bind fun t14 =>
  (pG t5 true (pBin .eql false t14 (vi 2))).bind fun t15 =>
  (pPick t5 t15 (vb false)).bind fun t16 =>
  some ((t16, [])) :=
  (G_eq rfl Try.func52 rfl rfl).trans (by kernel_rfl)
theorem g53 (a0 : A) : G 53 [a0] =
  (pLenL a0).bind fun t0 =>
  (pMake 40 t0 t0).bind fun t1 =>
  L53_0 a0 (vi 0) (rRep t1 [sv [], A.sl 2 []]) :=
  (G_eq rfl Try.func53 rfl rfl).trans (by kernel_rfl)
theorem l53_0 (x0 x1 : A) (r0 : List (List A)) : L53_0 x0 x1 r0 =
  (pLenL x0).bind fun t2 =>
  (pBin .lss false x1 t2).bind fun t3 =>
  (pBool t3).bind fun t4 =>
  brn t4 (
    (pIndexAddr 2 x0 x1).bind fun t5 =>
    (pLoadN 2 t5).bind fun t6 =>
    ((G 23 [t6]).bind (fin false)).bind fun t7 =>
    (pIx (rLenN r0) x1).bind fun t8 =>
    (pCells 2 t7).bind fun t9 =>
    (rGet r0 t8).bind fun t10 =>
    (pBin .add false x1 (vi 1)).bind fun t11 =>
    L53_0 x0 t11 (rSet r0 t8 (cOver t10 0 [cGet t9 0, cGet t9 1]))) (
    some ((A.sl 2 r0, []))) :=
  (H_eq Try.func53 rfl).trans (by kernel_rfl)
theorem g54 (a0 : A) : G 54 [a0] =
  (pCells 2 a0).bind fun t0 =>
  (pBin .eql false (cGet t0 0) (sv [61])).bind fun t1 =>
  some ((t1, [])) :=
  (G_eq rfl Try.func54 rfl rfl).trans (by kernel_rfl)
theorem g55 (a0 : A) : G 55 [a0] =
  (pCells 2 a0).bind fun t0 =>
  ((G 54 [A.agg [cGet t0 0, cGet t0 1]]).bind (fin false)).bind fun t1 =>
  (pBool t1).bind fun t2 =>
  brn t2 (
    (pLenL (cGet t0 1)).bind fun t3 =>
    (pBin .eql false t3 (vi 2)).bind fun t4 =>
    (pWant t4 true).bind fun t5 =>
    (pG t4 true ((G 78 [A.agg [cGet t0 0, cGet t0 1]]).bind (fin false))).bind fun t6 =>
    (pPick t4 t6 (vb false)).bind fun t7 =>
    (pWant t7 true).bind fun t8 =>
    (pG t7 true (some (cGet t0 1))).bind fun t9 =>
    (pG t7 true (pIndexAddr 2 t9 (vi 0))).bind fun t10 =>
    (pG t7 true (pLoadN 2 t10)).bind fun t11 =>
    (pG t7 true ((G 79 [t11]).bind (fin false))).bind fun t12 =>
    (pPick t7 t12 (vb false)).bind fun t13 =>
    (pWant t13 true).bind fun t14 =>
    (pG t13 true (some (cGet t0 1))).bind fun t15 =>
    (pG t13 true (pIndexAddr 2 t15 (vi 1))).bind fun t16 =>
    (pG t13 true (pLoadN 2 t16)).bind fun t17 =>
    (pG t13 true ((G 79 [t17]).bind (fin false))).bind fun t18 =>
    (pPick t13 t18 (vb false)).bind fun t19 =>
    some ((t19, []))) (
    ((G 80 [cGet t0 0]).bind (fin false)).bind fun t20 =>
    (pWant t20 true).bind fun t21 =>
    (pG t20 true ((G 81 [A.agg [cGet t0 0, cGet t0 1]]).bind (fin false))).bind fun t22 =>
    (pPick t20 t22 (vb false)).bind fun t23 =>
    some ((t23, []))) :=
  (G_eq rfl Try.func55 rfl rfl).trans (by kernel_rfl)
theorem g56 (a0 a1 : A) : G 56 [a0, a1] =
  (pCells 2 a0).bind fun t0 =>
  (pCells 2 a1).bind fun t1 =>
  ((G 82 [A.agg [cGet t0 0, cGet t0 1], A.agg [cGet t1 0, cGet t1 1]]).bind (fin false)).bind fun t2 =>
  (pBool t2).bind fun t3 =>
  brn t3 (
    some ((vi 1, []))) (
    (C83_0 (cGet t0 0) (cGet t0 1) []).bind fun t4 =>
    (hR 1 t4 0).bind fun t5 =>
    (C83_0 (cGet t1 0) (cGet t1 1) t5).bind fun t6 =>
    (hR 1 t6 0).bind fun t7 =>
    (pBin .gtr false (rLen t7) (vi 12)).bind fun t8 =>
    (pBool t8).bind fun t9 =>
    brn t9 (
      some ((vi 0, []))) (
      (C84_0 t7).bind fun t10 =>
      (hR 1 t10 0).bind fun t11 =>
      (C85_0 (rLen t11) [[vi 1]]).bind fun t12 =>
      (hR 1 t12 0).bind fun t13 =>
      ((G 86 [A.agg [A.sl 1 t11, A.sl 1 t13, vi 1], A.agg [cGet t0 0, cGet t0 1], A.agg [cGet t1 0, cGet t1 1]]).bind (fin true)).bind fun t14 =>
      some ((t14, [])))) :=
  (G_eq rfl Try.func56 rfl rfl).trans (by kernel_rfl)
theorem g57 (a0 a1 : A) : G 57 [a0, a1] =
  (pLenL a0).bind fun t0 =>
  (pLenL a1).bind fun t1 =>
  (pBin .neq false t0 t1).bind fun t2 =>
  (pBool t2).bind fun t3 =>
  brn t3 (
    some ((vb false, []))) (
    L57_0 a0 a1 (vi 0)) :=
  (G_eq rfl Try.func57 rfl rfl).trans (by kernel_rfl)
theorem l57_0 (x0 x1 x2 : A) : L57_0 x0 x1 x2 =
  (pLenL x0).bind fun t4 =>
  (pBin .lss false x2 t4).bind fun t5 =>
  (pBool t5).bind fun t6 =>
  brn t6 (
    (pIndexAddr 2 x0 x2).bind fun t7 =>
    (pLoadN 2 t7).bind fun t8 =>
    (pIndexAddr 2 x1 x2).bind fun t9 =>
    (pLoadN 2 t9).bind fun t10 =>
    ((G 25 [t8, t10]).bind (fin false)).bind fun t11 =>
    (pUn .not t11).bind fun t12 =>
    (pBool t12).bind fun t13 =>
    brn t13 (
      some ((vb false, []))) (
      (pBin .add false x2 (vi 1)).bind fun t14 =>
      L57_0 x0 x1 t14)) (
    some ((vb true, []))) :=
  (H_eq Try.func57 rfl).trans (by kernel_rfl)
theorem g59 (a0 a1 : A) : G 59 [a0, a1] =
  (pBin .gtr false a0 a1).bind fun t0 =>
  (pBool t0).bind fun t1 =>
  brn t1 (
    some ((a0, []))) (
    some ((a1, []))) :=
  (G_eq rfl Try.func59 rfl rfl).trans (by kernel_rfl)
theorem g66 (a0 a1 a2 : A) : G 66 [a0, a1, a2] =
  (pBin .geq false a0 a1).bind fun t0 =>
  (pG t0 true (some a0)).bind fun t1 =>
  (pG t0 true (some a2)).bind fun t2 =>
  (pG t0 true (pBin .leq false t1 t2)).bind fun t3 =>
  (pPick t0 t3 (vb false)).bind fun t4 =>
  some ((t4, [])) :=
  (G_eq rfl Try.func66 rfl rfl).trans (by kernel_rfl)
theorem g76 (a0 : A) : G 76 [a0] =
  (pCells 2 a0).bind fun t0 =>
  (pBin .eql false (cGet t0 0) (sv [61])).bind fun t1 =>
  (pBool t1).bind fun t2 =>
  brn t2 (
    (pLenL (cGet t0 1)).bind fun t3 =>
    (pBin .eql false t3 (vi 2)).bind fun t4 =>
    (pWant t4 true).bind fun t5 =>
    (pG t4 true ((G 99 [A.agg [cGet t0 0, cGet t0 1]]).bind (fin false))).bind fun t6 =>
    (pPick t4 t6 (vb false)).bind fun t7 =>
    (pWant t7 true).bind fun t8 =>
    (pG t7 true (some (cGet t0 1))).bind fun t9 =>
    (pG t7 true (pIndexAddr 2 t9 (vi 0))).bind fun t10 =>
    (pG t7 true (pLoadN 2 t10)).bind fun t11 =>
    (pG t7 true ((G 100 [t11]).bind (fin false))).bind fun t12 =>
    (pPick t7 t12 (vb false)).bind fun t13 =>
    (pWant t13 true).bind fun t14 =>
    (pG t13 true (some (cGet t0 1))).bind fun t15 =>
    (pG t13 true (pIndexAddr 2 t15 (vi 1))).bind fun t16 =>
    (pG t13 true (pLoadN 2 t16)).bind fun t17 =>
    (pG t13 true ((G 100 [t17]).bind (fin false))).bind fun t18 =>
    (pPick t13 t18 (vb false)).bind fun t19 =>
    some ((t19, []))) (
    ((G 101 [cGet t0 0]).bind (fin false)).bind fun t20 =>
    (pWant t20 true).bind fun t21 =>
    (pG t20 true ((G 102 [A.agg [cGet t0 0, cGet t0 1]]).bind (fin false))).bind fun t22 =>
    (pPick t20 t22 (vb false)).bind fun t23 =>
    some ((t23, []))) :=
  (G_eq rfl Try.func76 rfl rfl).trans (by kernel_rfl)
theorem g77 (a0 a1 : A) : G 77 [a0, a1] =
  (pCells 2 a0).bind fun t0 =>
  (pCells 2 a1).bind fun t1 =>
  ((G 103 [A.agg [cGet t0 0, cGet t0 1], A.agg [cGet t1 0, cGet t1 1]]).bind (fin false)).bind fun t2 =>
  (pBool t2).bind fun t3 =>
  brn t3 (
    some ((vi 1, []))) (
    ((G 104 [A.sl 1 [], A.agg [cGet t0 0, cGet t0 1]]).bind (fin false)).bind fun t4 =>
    ((G 104 [t4, A.agg [cGet t1 0, cGet t1 1]]).bind (fin false)).bind fun t5 =>
    brn (okA t5) (
      brn (okA t5) (
        (pLenL t5).bind fun t6 =>
        (pBin .eql false t6 (vi 0)).bind fun t7 =>
        (pWant t7 false).bind fun t8 =>
        (pG t7 false (some t5)).bind fun t9 =>
        (pG t7 false (pLenL t9)).bind fun t10 =>
        (pG t7 false (pBin .gtr false t10 (vi 12))).bind fun t11 =>
        (pPick t7 (vb true) t11).bind fun t12 =>
        (pBool t12).bind fun t13 =>
        brn t13 (
          some ((vi 0, []))) (
          L77_0 (vi 0) (cGet t0 0) (cGet t0 1) (cGet t1 0) (cGet t1 1) t5 (vi 1) [])) (
        none)) (
      none)) :=
  (G_eq rfl Try.func77 rfl rfl).trans (by kernel_rfl)
theorem l77_0 (x0 x1 x2 x3 x4 x5 x6 : A) (r0 : List (List A)) : L77_0 x0 x1 x2 x3 x4 x5 x6 r0 =
  (pLenL x5).bind fun t14 =>
  (pBin .lss false x0 t14).bind fun t15 =>
  (pBool t15).bind fun t16 =>
  brn t16 (
    brn (pFit ((rLenN r0) + (rLenN [[vi 1]])) 8) (
      (pBin .add false x0 (vi 1)).bind fun t17 =>
      L77_0 t17 x1 x2 x3 x4 x5 x6 (rApp r0 [[vi 1]])) (
      none)) (
    ((G 105 [A.agg [x5, A.sl 1 r0, x6], A.agg [x1, x2], A.agg [x3, x4]]).bind (fin true)).bind fun t18 =>
    (pTup t18 0).bind fun t19 =>
    (pTup t18 1).bind fun t20 =>
    (pUn .not t20).bind fun t21 =>
    (pBool t21).bind fun t22 =>
    brn t22 (
      some ((vi 0, []))) (
      some ((t19, [])))) :=
  (H_eq Try.func77 rfl).trans (by kernel_rfl)
theorem g78 (a0 : A) : G 78 [a0] =
  (pCells 2 a0).bind fun t0 =>
  ((G 106 [A.agg [cGet t0 0, cGet t0 1]]).bind (fin false)).bind fun t1 =>
  (pBin .leq false t1 (vi 30)).bind fun t2 =>
  (pWant t2 true).bind fun t3 =>
  (pG t2 true ((G 107 [A.agg [cGet t0 0, cGet t0 1]]).bind (fin false))).bind fun t4 =>
  (pG t2 true (pBin .leq false t4 (vi 8))).bind fun t5 =>
  (pPick t2 t5 (vb false)).bind fun t6 =>
  some ((t6, [])) :=
  (G_eq rfl Try.func78 rfl rfl).trans (by kernel_rfl)
theorem g79 (a0 : A) : G 79 [a0] =
  (pCells 2 a0).bind fun t0 =>
  ((G 108 [cGet t0 0]).bind (fin false)).bind fun t1 =>
  (pBool t1).bind fun t2 =>
  brn t2 (
    (pLenL (cGet t0 1)).bind fun t3 =>
    (pBin .eql false t3 (vi 0)).bind fun t4 =>
    some ((t4, []))) (
    ((G 80 [cGet t0 0]).bind (fin false)).bind fun t5 =>
    (pWant t5 true).bind fun t6 =>
    (pG t5 true (some (cGet t0 1))).bind fun t7 =>
    (pG t5 true (pLenL t7)).bind fun t8 =>
    (pG t5 true (pBin .leq false t8 (vi 4))).bind fun t9 =>
    (pPick t5 t9 (vb false)).bind fun t10 =>
    (pWant t10 true).bind fun t11 =>
    (pG t10 true (some (cGet t0 1))).bind fun t12 =>
    (pG t10 true ((G 109 [t12, A.fn 110 []]).bind (fin false))).bind fun t13 =>
    (pG t10 true (pUn .not t13)).bind fun t14 =>
    (pPick t10 t14 (vb false)).bind fun t15 =>
    some ((t15, []))) :=
  (G_eq rfl Try.func79 rfl rfl).trans (by kernel_rfl)
theorem g80 (a0 : A) : G 80 [a0] =
  (pLenS a0).bind fun t0 =>
  L80_0 a0 t0 (vi 0) :=
  (G_eq rfl Try.func80 rfl rfl).trans (by kernel_rfl)
theorem l80_0 (x0 x1 x2 : A) : L80_0 x0 x1 x2 =
  (pBin .lss false x2 x1).bind fun t1 =>
  (pBool t1).bind fun t2 =>
  brn t2 (
    (pBin .eql false x2 (vi 0)).bind fun t3 =>
    (pG t3 true (some x0)).bind fun t4 =>
    (pG t3 true (some x2)).bind fun t5 =>
    (pG t3 true (pIndexS t4 t5)).bind fun t6 =>
    (pG t3 true ((G 111 [t6]).bind (fin false))).bind fun t7 =>
    (pG t3 true (pUn .not t7)).bind fun t8 =>
    (pPick t3 t8 (vb false)).bind fun t9 =>
    (pG t9 false (some x0)).bind fun t10 =>
    (pG t9 false (some x2)).bind fun t11 =>
    (pG t9 false (pIndexS t10 t11)).bind fun t12 =>
    (pG t9 false ((G 111 [t12]).bind (fin false))).bind fun t13 =>
    (pG t9 false (pUn .not t13)).bind fun t14 =>
    (pG t9 false (some t14)).bind fun t15 =>
    (pG t15 true (some x0)).bind fun t16 =>
    (pG t15 true (some x2)).bind fun t17 =>
    (pG t15 true (pIndexS t16 t17)).bind fun t18 =>
    (pG t15 true ((G 112 [t18]).bind (fin false))).bind fun t19 =>
    (pG t15 true (pUn .not t19)).bind fun t20 =>
    (pG t9 false (pPick t15 t20 (vb false))).bind fun t21 =>
    (pG t9 false (some t21)).bind fun t22 =>
    (pG t22 true (some x0)).bind fun t23 =>
    (pG t22 true (some x2)).bind fun t24 =>
    (pG t22 true (pIndexS t23 t24)).bind fun t25 =>
    (pG t22 true (pBin .neq false t25 (vy 95))).bind fun t26 =>
    (pG t9 false (pPick t22 t26 (vb false))).bind fun t27 =>
    (pPick t9 (vb true) t27).bind fun t28 =>
    (pBool t28).bind fun t29 =>
    brn t29 (
      some ((vb false, []))) (
      (pBin .add false x2 (vi 1)).bind fun t30 =>
      L80_0 x0 x1 t30)) (
    (pLenS x0).bind fun t31 =>
    ((G 66 [t31, vi 1, vi 6]).bind (fin false)).bind fun t32 =>
    (pG t32 true ((G 114 []).bind (fin false))).bind fun t33 =>
    (pG t32 true (some x0)).bind fun t34 =>
    (pG t32 true ((G 113 [t33, t34]).bind (fin false))).bind fun t35 =>
    (pG t32 true (pUn .not t35)).bind fun t36 =>
    (pPick t32 t36 (vb false)).bind fun t37 =>
    some ((t37, []))) :=
  (H_eq Try.func80 rfl).trans (by kernel_rfl)
theorem g81 (a0 : A) : G 81 [a0] =
  (pCells 2 a0).bind fun t0 =>
  ((G 78 [A.agg [cGet t0 0, cGet t0 1]]).bind (fin false)).bind fun t1 =>
  (pWant t1 true).bind fun t2 =>
  (pG t1 true ((G 79 [A.agg [cGet t0 0, cGet t0 1]]).bind (fin false))).bind fun t3 =>
  (pPick t1 t3 (vb false)).bind fun t4 =>
  some ((t4, [])) :=
  (G_eq rfl Try.func81 rfl rfl).trans (by kernel_rfl)
theorem g82 (a0 a1 : A) : G 82 [a0, a1] =
  (pCells 2 a0).bind fun t0 =>
  (pCells 2 a1).bind fun t1 =>
  (pBin .eql false (cGet t0 0) (cGet t1 0)).bind fun t2 =>
  (pWant t2 true).bind fun t3 =>
  (pG t2 true (some (cGet t0 1))).bind fun t4 =>
  (pWant t2 true).bind fun t5 =>
  (pG t2 true (some (cGet t1 1))).bind fun t6 =>
  (pG t2 true ((G 115 [t4, t6, A.fn 82 []]).bind (fin false))).bind fun t7 =>
  (pPick t2 t7 (vb false)).bind fun t8 =>
  some ((t8, [])) :=
  (G_eq rfl Try.func82 rfl rfl).trans (by kernel_rfl)
theorem c83_0 (x0 x1 : A) (r0 : List (List A)) : C83_0 x0 x1 r0 =
  brn (okA x0) (
    brn (okA x1) (
      ((G 80 [x0]).bind (fin false)).bind fun t0 =>
      (pWant t0 true).bind fun t1 =>
      (pWant t0 true).bind fun t2 =>
      (pG t0 true (some x0)).bind fun t3 =>
      (pG t0 true ((G 113 [A.sl 1 r0, t3]).bind (fin true))).bind fun t4 =>
      (pG t0 true (pUn .not t4)).bind fun t5 =>
      (pPick t0 t5 (vb false)).bind fun t6 =>
      (pBool t6).bind fun t7 =>
      brn t7 (
        brn (okA x0) (
          brn (pFit ((rLenN r0) + (rLenN [[x0]])) 16) (
            (pLenL x1).bind fun t8 =>
            L83c0_0 x1 t8 (vi 0) (rApp r0 [[x0]])) (
            none)) (
          none)) (
        (pLenL x1).bind fun t9 =>
        L83c0_1 x1 t9 (vi 0) r0)) (
      none)) (
    none) :=
  (V_eq rfl Try.func83 rfl rfl).trans (by kernel_rfl)
theorem l83c0_0 (x0 x1 x2 : A) (r0 : List (List A)) : L83c0_0 x0 x1 x2 r0 =
  (pBin .lss false x2 x1).bind fun t10 =>
  (pBool t10).bind fun t11 =>
  brn t11 (
    (pIndexAddr 2 x0 x2).bind fun t12 =>
    (pLoadN 2 t12).bind fun t13 =>
    (pCells 2 t13).bind fun t14 =>
    (C83_0 (cGet t14 0) (cGet t14 1) r0).bind fun t15 =>
    (hR 1 t15 0).bind fun t16 =>
    (pBin .add false x2 (vi 1)).bind fun t17 =>
    L83c0_0 x0 x1 t17 t16) (
    some ((A.top, [A.sl 1 r0]))) :=
  (H_eq Try.func83 rfl).trans (by kernel_rfl)
theorem l83c0_1 (x0 x1 x2 : A) (r0 : List (List A)) : L83c0_1 x0 x1 x2 r0 =
  (pBin .lss false x2 x1).bind fun t18 =>
  (pBool t18).bind fun t19 =>
  brn t19 (
    (pIndexAddr 2 x0 x2).bind fun t20 =>
    (pLoadN 2 t20).bind fun t21 =>
    (pCells 2 t21).bind fun t22 =>
    (C83_0 (cGet t22 0) (cGet t22 1) r0).bind fun t23 =>
    (hR 1 t23 0).bind fun t24 =>
    (pBin .add false x2 (vi 1)).bind fun t25 =>
    L83c0_0 x0 x1 t25 t24) (
    some ((A.top, [A.sl 1 r0]))) :=
  (H_eq Try.func83 rfl).trans (by kernel_rfl)
theorem c84_0 (r0 : List (List A)) : C84_0 r0 = Go.Proofs.Ytencikloakamfaa.Abs.sortX [V.row 0] [.row 1 r0] :=
  X_eq rfl
theorem c85_0 (x0 : A) (r0 : List (List A)) : C85_0 x0 r0 =
  (pBin .lss false x0 (vi 0)).bind fun t0 =>
  (pBool t0).bind fun t1 =>
  brn t1 (
    none) (
    (pConv .u64 (rLen r0)).bind fun t2 =>
    (pConv .u64 x0).bind fun t3 =>
    ((G 117 [t2, t3]).bind (fin false)).bind fun t4 =>
    (pTup t4 0).bind fun t5 =>
    (pTup t4 1).bind fun t6 =>
    (pBin .gtr false t5 (A.val (.int .u64 0))).bind fun t7 =>
    (pG t7 false (some t6)).bind fun t8 =>
    (pG t7 false (pBin .gtr false t8 (A.val (.int .u64 9223372036854775807)))).bind fun t9 =>
    (pPick t7 (vb true) t9).bind fun t10 =>
    (pBool t10).bind fun t11 =>
    brn t11 (
      none) (
      (pConv .i64 t6).bind fun t12 =>
      (pMake 8 t12 t12).bind fun t13 =>
      L85c0_0 (rMin r0 (rCnt (rRep t13 [vi 0]))) (rOver (rRep t13 [vi 0]) 0 (rTake r0 (rCnt (rRep t13 [vi 0])))) r0)) :=
  (V_eq rfl Try.func85 rfl rfl).trans (by kernel_rfl)
theorem l85c0_0 (x0 : A) (r0 r1 : List (List A)) : L85c0_0 x0 r0 r1 =
  (pBin .lss false x0 (rLen r0)).bind fun t14 =>
  (pBool t14).bind fun t15 =>
  brn t15 (
    (pB (rCnt r0) (rRem r0 0) none).bind fun t16 =>
    (pB 0 t16 (some x0)).bind fun t17 =>
    (pB (rCnt r0) (rRem r0 0) (some x0)).bind fun t18 =>
    (pBin .add false x0 (rMin (rWin r0 0 (nSub t18 0)) (nSub t16 t17))).bind fun t19 =>
    L85c0_0 t19 (rOver r0 (0 + t17) (rTake (rWin r0 0 (nSub t18 0)) (nSub t16 t17))) r1) (
    some ((A.top, [A.sl 1 r0]))) :=
  (H_eq Try.func85 rfl).trans (by kernel_rfl)
theorem g86 (a0 a1 a2 : A) : G 86 [a0, a1, a2] =
  (pCells 3 a0).bind fun t0 =>
  (pCells 2 a1).bind fun t1 =>
  (pCells 2 a2).bind fun t2 =>
  ((G 82 [A.agg [cGet t1 0, cGet t1 1], A.agg [cGet t2 0, cGet t2 1]]).bind (fin false)).bind fun t3 =>
  ((G 118 [t3, A.fn 119 [A.elt [cGet t0 0, cGet t0 1, cGet t0 2] 0, A.elt [cGet t1 0, cGet t1 1] 0, A.elt [cGet t2 0, cGet t2 1] 0], A.fn 121 [A.elt [cGet t0 0, cGet t0 1, cGet t0 2] 0, A.elt [cGet t2 0, cGet t2 1] 0, A.elt [cGet t1 0, cGet t1 1] 0]]).bind (fin true)).bind fun t4 =>
  some ((t4, [])) :=
  (G_eq rfl Try.func86 rfl rfl).trans (by kernel_rfl)
theorem g99 (a0 : A) : G 99 [a0] =
  (pCells 2 a0).bind fun t0 =>
  ((G 127 [A.agg [cGet t0 0, cGet t0 1], vi 30]).bind (fin false)).bind fun t1 =>
  (pBin .leq false t1 (vi 30)).bind fun t2 =>
  (pWant t2 true).bind fun t3 =>
  (pG t2 true ((G 128 [A.agg [cGet t0 0, cGet t0 1]]).bind (fin false))).bind fun t4 =>
  (pG t2 true (pBin .leq false t4 (vi 8))).bind fun t5 =>
  (pPick t2 t5 (vb false)).bind fun t6 =>
  some ((t6, [])) :=
  (G_eq rfl Try.func99 rfl rfl).trans (by kernel_rfl)
theorem g100 (a0 : A) : G 100 [a0] =
  (pCells 2 a0).bind fun t0 =>
  ((G 129 [cGet t0 0]).bind (fin false)).bind fun t1 =>
  (pBool t1).bind fun t2 =>
  brn t2 (
    (pLenL (cGet t0 1)).bind fun t3 =>
    (pBin .eql false t3 (vi 0)).bind fun t4 =>
    some ((t4, []))) (
    ((G 101 [cGet t0 0]).bind (fin false)).bind fun t5 =>
    (pUn .not t5).bind fun t6 =>
    (pWant t6 false).bind fun t7 =>
    (pG t6 false (some (cGet t0 1))).bind fun t8 =>
    (pG t6 false (pLenL t8)).bind fun t9 =>
    (pG t6 false (pBin .gtr false t9 (vi 4))).bind fun t10 =>
    (pPick t6 (vb true) t10).bind fun t11 =>
    (pBool t11).bind fun t12 =>
    brn t12 (
      some ((vb false, []))) (
      L100_0 (vi 0) (cGet t0 0) (cGet t0 1))) :=
  (G_eq rfl Try.func100 rfl rfl).trans (by kernel_rfl)
theorem l100_0 (x0 x1 x2 : A) : L100_0 x0 x1 x2 =
  (pLenL x2).bind fun t13 =>
  (pBin .lss false x0 t13).bind fun t14 =>
  (pBool t14).bind fun t15 =>
  brn t15 (
    (pIndexAddr 2 x2 x0).bind fun t16 =>
    (pLoadN 2 t16).bind fun t17 =>
    ((G 100 [t17]).bind (fin false)).bind fun t18 =>
    (pUn .not t18).bind fun t19 =>
    (pBool t19).bind fun t20 =>
    brn t20 (
      some ((vb false, []))) (
      (pBin .add false x0 (vi 1)).bind fun t21 =>
      L100_0 t21 x1 x2)) (
    some ((vb true, []))) :=
  (H_eq Try.func100 rfl).trans (by kernel_rfl)
theorem g101 (a0 : A) : G 101 [a0] =
  (pLenS a0).bind fun t0 =>
  ((G 35 [t0, vi 1, vi 6]).bind (fin false)).bind fun t1 =>
  (pUn .not t1).bind fun t2 =>
  (pG t2 false (some a0)).bind fun t3 =>
  (pG t2 false (pIndexS t3 (vi 0))).bind fun t4 =>
  (pG t2 false (pBin .lss false t4 (vy 97))).bind fun t5 =>
  (pPick t2 (vb true) t5).bind fun t6 =>
  (pG t6 false (some a0)).bind fun t7 =>
  (pG t6 false (pIndexS t7 (vi 0))).bind fun t8 =>
  (pG t6 false (pBin .gtr false t8 (vy 122))).bind fun t9 =>
  (pPick t6 (vb true) t9).bind fun t10 =>
  (pBool t10).bind fun t11 =>
  brn t11 (
    some ((vb false, []))) (
    (pBin .eql false a0 (sv [116, 114, 117, 101])).bind fun t12 =>
    (pBool t12).bind fun t13 =>
    brn t13 (
      (pBool t12).bind fun t14 =>
      brn t14 (
        some ((vb false, []))) (
        L101_0 a0 (vi 1))) (
      (pBin .eql false a0 (sv [102, 97, 108, 115, 101])).bind fun t15 =>
      (pBool t15).bind fun t16 =>
      brn t16 (
        (pBool t15).bind fun t17 =>
        brn t17 (
          some ((vb false, []))) (
          L101_0 a0 (vi 1))) (
        (pBin .eql false a0 (sv [116, 114, 117, 116, 104])).bind fun t18 =>
        (pBool t18).bind fun t19 =>
        brn t19 (
          (pBool t18).bind fun t20 =>
          brn t20 (
            some ((vb false, []))) (
            L101_0 a0 (vi 1))) (
          (pBin .eql false a0 (sv [98, 111, 116, 104])).bind fun t21 =>
          (pBool t21).bind fun t22 =>
          brn t22 (
            (pBool t21).bind fun t23 =>
            brn t23 (
              some ((vb false, []))) (
              L101_0 a0 (vi 1))) (
            (pBin .eql false a0 (sv [101, 105, 116, 104, 101, 114])).bind fun t24 =>
            (pBool t24).bind fun t25 =>
            brn t25 (
              (pBool t24).bind fun t26 =>
              brn t26 (
                some ((vb false, []))) (
                L101_0 a0 (vi 1))) (
              (pBin .eql false a0 (sv [105, 102])).bind fun t27 =>
              (pBool t27).bind fun t28 =>
              brn t28 (
                (pBool t27).bind fun t29 =>
                brn t29 (
                  some ((vb false, []))) (
                  L101_0 a0 (vi 1))) (
                (pBin .eql false a0 (sv [97, 108, 108])).bind fun t30 =>
                (pBool t30).bind fun t31 =>
                brn t31 (
                  (pBool t30).bind fun t32 =>
                  brn t32 (
                    some ((vb false, []))) (
                    L101_0 a0 (vi 1))) (
                  (pBin .eql false a0 (sv [115, 111, 109, 101])).bind fun t33 =>
                  (pBool t33).bind fun t34 =>
                  brn t34 (
                    some ((vb false, []))) (
                    L101_0 a0 (vi 1)))))))))) :=
  (G_eq rfl Try.func101 rfl rfl).trans (by kernel_rfl)
theorem l101_0 (x0 x1 : A) : L101_0 x0 x1 =
  (pLenS x0).bind fun t35 =>
  (pBin .lss false x1 t35).bind fun t36 =>
  (pBool t36).bind fun t37 =>
  brn t37 (
    (pIndexS x0 x1).bind fun t38 =>
    ((G 130 [t38]).bind (fin false)).bind fun t39 =>
    (pUn .not t39).bind fun t40 =>
    (pG t40 true (some x0)).bind fun t41 =>
    (pG t40 true (some x1)).bind fun t42 =>
    (pG t40 true (pIndexS t41 t42)).bind fun t43 =>
    (pG t40 true (pBin .neq false t43 (vy 95))).bind fun t44 =>
    (pPick t40 t44 (vb false)).bind fun t45 =>
    (pBool t45).bind fun t46 =>
    brn t46 (
      some ((vb false, []))) (
      (pBin .add false x1 (vi 1)).bind fun t47 =>
      L101_0 x0 t47)) (
    some ((vb true, []))) :=
  (H_eq Try.func101 rfl).trans (by kernel_rfl)
theorem g102 (a0 : A) : G 102 [a0] =
  (pCells 2 a0).bind fun t0 =>
  ((G 99 [A.agg [cGet t0 0, cGet t0 1]]).bind (fin false)).bind fun t1 =>
  (pWant t1 true).bind fun t2 =>
  (pG t1 true ((G 100 [A.agg [cGet t0 0, cGet t0 1]]).bind (fin false))).bind fun t3 =>
  (pPick t1 t3 (vb false)).bind fun t4 =>
  some ((t4, [])) :=
  (G_eq rfl Try.func102 rfl rfl).trans (by kernel_rfl)
theorem g103 (a0 a1 : A) : G 103 [a0, a1] =
  (pCells 2 a0).bind fun t0 =>
  (pCells 2 a1).bind fun t1 =>
  (pBin .neq false (cGet t0 0) (cGet t1 0)).bind fun t2 =>
  (pWant t2 false).bind fun t3 =>
  (pG t2 false (some (cGet t0 1))).bind fun t4 =>
  (pG t2 false (pLenL t4)).bind fun t5 =>
  (pWant t2 false).bind fun t6 =>
  (pG t2 false (some (cGet t1 1))).bind fun t7 =>
  (pG t2 false (pLenL t7)).bind fun t8 =>
  (pG t2 false (pBin .neq false t5 t8)).bind fun t9 =>
  (pPick t2 (vb true) t9).bind fun t10 =>
  (pBool t10).bind fun t11 =>
  brn t11 (
    some ((vb false, []))) (
    L103_0 (vi 0) (cGet t0 0) (cGet t0 1) (cGet t1 0) (cGet t1 1)) :=
  (G_eq rfl Try.func103 rfl rfl).trans (by kernel_rfl)
theorem l103_0 (x0 x1 x2 x3 x4 : A) : L103_0 x0 x1 x2 x3 x4 =
  (pLenL x2).bind fun t12 =>
  (pBin .lss false x0 t12).bind fun t13 =>
  (pBool t13).bind fun t14 =>
  brn t14 (
    (pIndexAddr 2 x2 x0).bind fun t15 =>
    (pLoadN 2 t15).bind fun t16 =>
    (pIndexAddr 2 x4 x0).bind fun t17 =>
    (pLoadN 2 t17).bind fun t18 =>
    ((G 103 [t16, t18]).bind (fin false)).bind fun t19 =>
    (pUn .not t19).bind fun t20 =>
    (pBool t20).bind fun t21 =>
    brn t21 (
      some ((vb false, []))) (
      (pBin .add false x0 (vi 1)).bind fun t22 =>
      L103_0 t22 x1 x2 x3 x4)) (
    some ((vb true, []))) :=
  (H_eq Try.func103 rfl).trans (by kernel_rfl)
theorem g104 (a0 a1 : A) : G 104 [a0, a1] =
  (pCells 2 a1).bind fun t0 =>
  ((G 129 [cGet t0 0]).bind (fin false)).bind fun t1 =>
  (pUn .not t1).bind fun t2 =>
  (pBool t2).bind fun t3 =>
  brn t3 (
    ((G 131 [a0, cGet t0 0]).bind (fin false)).bind fun t4 =>
    L104_0 t4 (vi 0) (cGet t0 0) (cGet t0 1)) (
    L104_0 a0 (vi 0) (cGet t0 0) (cGet t0 1)) :=
  (G_eq rfl Try.func104 rfl rfl).trans (by kernel_rfl)
theorem l104_0 (x0 x1 x2 x3 : A) : L104_0 x0 x1 x2 x3 =
  (pLenL x3).bind fun t5 =>
  (pBin .lss false x1 t5).bind fun t6 =>
  (pBool t6).bind fun t7 =>
  brn t7 (
    (pIndexAddr 2 x3 x1).bind fun t8 =>
    (pLoadN 2 t8).bind fun t9 =>
    ((G 104 [x0, t9]).bind (fin false)).bind fun t10 =>
    (pBin .add false x1 (vi 1)).bind fun t11 =>
    L104_0 t10 t11 x2 x3) (
    some ((x0, []))) :=
  (H_eq Try.func104 rfl).trans (by kernel_rfl)
theorem g105 (a0 a1 a2 : A) : G 105 [a0, a1, a2] =
  (pCells 3 a0).bind fun t0 =>
  (pCells 2 a1).bind fun t1 =>
  (pCells 2 a2).bind fun t2 =>
  ((G 132 [A.agg [cGet t0 0, cGet t0 1, cGet t0 2]]).bind (fin false)).bind fun t3 =>
  (pUn .not t3).bind fun t4 =>
  (pWant t4 false).bind fun t5 =>
  (pWant t4 false).bind fun t6 =>
  (pG t4 false ((G 133 [A.agg [cGet t0 0, cGet t0 1, cGet t0 2], A.agg [cGet t1 0, cGet t1 1]]).bind (fin false))).bind fun t7 =>
  (pG t4 false (pUn .not t7)).bind fun t8 =>
  (pPick t4 (vb true) t8).bind fun t9 =>
  (pWant t9 false).bind fun t10 =>
  (pWant t9 false).bind fun t11 =>
  (pG t9 false ((G 133 [A.agg [cGet t0 0, cGet t0 1, cGet t0 2], A.agg [cGet t2 0, cGet t2 1]]).bind (fin false))).bind fun t12 =>
  (pG t9 false (pUn .not t12)).bind fun t13 =>
  (pPick t9 (vb true) t13).bind fun t14 =>
  (pBool t14).bind fun t15 =>
  brn t15 (
    some ((A.tup [vi 0, vb false], []))) (
    ((G 103 [A.agg [cGet t1 0, cGet t1 1], A.agg [cGet t2 0, cGet t2 1]]).bind (fin false)).bind fun t16 =>
    ((G 135 [A.agg [cGet t0 0, cGet t0 1, cGet t0 2], A.agg [cGet t1 0, cGet t1 1], A.agg [cGet t2 0, cGet t2 1]]).bind (fin false)).bind fun t17 =>
    ((G 135 [A.agg [cGet t0 0, cGet t0 1, cGet t0 2], A.agg [cGet t2 0, cGet t2 1], A.agg [cGet t1 0, cGet t1 1]]).bind (fin false)).bind fun t18 =>
    ((G 134 [t16, t17, t18]).bind (fin false)).bind fun t19 =>
    some ((A.tup [t19, vb true], []))) :=
  (G_eq rfl Try.func105 rfl rfl).trans (by kernel_rfl)
theorem g106 (a0 : A) : G 106 [a0] =
  (pCells 2 a0).bind fun t0 =>
  (pLenL (cGet t0 1)).bind fun t1 =>
  L106_0 (vi 1) (cGet t0 1) t1 (vi 0) :=
  (G_eq rfl Try.func106 rfl rfl).trans (by kernel_rfl)
theorem l106_0 (x0 x1 x2 x3 : A) : L106_0 x0 x1 x2 x3 =
  (pBin .lss false x3 x2).bind fun t2 =>
  (pBool t2).bind fun t3 =>
  brn t3 (
    (pIndexAddr 2 x1 x3).bind fun t4 =>
    (pLoadN 2 t4).bind fun t5 =>
    (pCells 2 t5).bind fun t6 =>
    (pBin .gtr false x0 (vi 30)).bind fun t7 =>
    (pBool t7).bind fun t8 =>
    brn t8 (
      some ((x0, []))) (
      ((G 106 [A.agg [cGet t6 0, cGet t6 1]]).bind (fin false)).bind fun t9 =>
      (pBin .add false x0 t9).bind fun t10 =>
      (pBin .add false x3 (vi 1)).bind fun t11 =>
      L106_0 t10 x1 x2 t11)) (
    some ((x0, []))) :=
  (H_eq Try.func106 rfl).trans (by kernel_rfl)
theorem g107 (a0 : A) : G 107 [a0] =
  (pCells 2 a0).bind fun t0 =>
  (pLenL (cGet t0 1)).bind fun t1 =>
  L107_0 (vi 0) (cGet t0 1) t1 (vi 0) :=
  (G_eq rfl Try.func107 rfl rfl).trans (by kernel_rfl)
theorem l107_0 (x0 x1 x2 x3 : A) : L107_0 x0 x1 x2 x3 =
  (pBin .lss false x3 x2).bind fun t2 =>
  (pBool t2).bind fun t3 =>
  brn t3 (
    (pIndexAddr 2 x1 x3).bind fun t4 =>
    (pLoadN 2 t4).bind fun t5 =>
    (pCells 2 t5).bind fun t6 =>
    ((G 107 [A.agg [cGet t6 0, cGet t6 1]]).bind (fin false)).bind fun t7 =>
    (pMax x0 t7).bind fun t8 =>
    (pBin .add false x3 (vi 1)).bind fun t9 =>
    L107_0 t8 x1 x2 t9) (
    (pBin .add false x0 (vi 1)).bind fun t10 =>
    some ((t10, []))) :=
  (H_eq Try.func107 rfl).trans (by kernel_rfl)
theorem g108 (a0 : A) : G 108 [a0] =
  (pLenS a0).bind fun t0 =>
  L108_0 a0 t0 (vi 0) :=
  (G_eq rfl Try.func108 rfl rfl).trans (by kernel_rfl)
theorem l108_0 (x0 x1 x2 : A) : L108_0 x0 x1 x2 =
  (pBin .lss false x2 x1).bind fun t1 =>
  (pBool t1).bind fun t2 =>
  brn t2 (
    (pBin .eql false x2 (vi 0)).bind fun t3 =>
    (pG t3 true (some x0)).bind fun t4 =>
    (pG t3 true (some x2)).bind fun t5 =>
    (pG t3 true (pIndexS t4 t5)).bind fun t6 =>
    (pG t3 true ((G 136 [t6]).bind (fin false))).bind fun t7 =>
    (pG t3 true (pUn .not t7)).bind fun t8 =>
    (pPick t3 t8 (vb false)).bind fun t9 =>
    (pG t9 false (some x2)).bind fun t10 =>
    (pG t9 false (pBin .gtr false t10 (vi 0))).bind fun t11 =>
    (pG t9 false (some t11)).bind fun t12 =>
    (pG t12 true (some x0)).bind fun t13 =>
    (pG t12 true (some x2)).bind fun t14 =>
    (pG t12 true (pIndexS t13 t14)).bind fun t15 =>
    (pG t12 true ((G 111 [t15]).bind (fin false))).bind fun t16 =>
    (pG t12 true (pUn .not t16)).bind fun t17 =>
    (pG t9 false (pPick t12 t17 (vb false))).bind fun t18 =>
    (pG t9 false (some t18)).bind fun t19 =>
    (pG t19 true (some x0)).bind fun t20 =>
    (pG t19 true (some x2)).bind fun t21 =>
    (pG t19 true (pIndexS t20 t21)).bind fun t22 =>
    (pG t19 true ((G 112 [t22]).bind (fin false))).bind fun t23 =>
    (pG t19 true (pUn .not t23)).bind fun t24 =>
    (pG t9 false (pPick t19 t24 (vb false))).bind fun t25 =>
    (pPick t9 (vb true) t25).bind fun t26 =>
    (pBool t26).bind fun t27 =>
    brn t27 (
      some ((vb false, []))) (
      (pBin .add false x2 (vi 1)).bind fun t28 =>
      L108_0 x0 x1 t28)) (
    (pLenS x0).bind fun t29 =>
    ((G 66 [t29, vi 1, vi 4]).bind (fin false)).bind fun t30 =>
    some ((t30, []))) :=
  (H_eq Try.func108 rfl).trans (by kernel_rfl)
theorem g109 (a0 a1 : A) : G 109 [a0, a1] =
  ((G 137 [a0, a1]).bind (fin false)).bind fun t0 =>
  (pBin .geq false t0 (vi 0)).bind fun t1 =>
  some ((t1, [])) :=
  (G_eq rfl Try.func109 rfl rfl).trans (by kernel_rfl)
theorem g110 (a0 : A) : G 110 [a0] =
  (pCells 2 a0).bind fun t0 =>
  ((G 79 [A.agg [cGet t0 0, cGet t0 1]]).bind (fin false)).bind fun t1 =>
  (pUn .not t1).bind fun t2 =>
  some ((t2, [])) :=
  (G_eq rfl Try.func110 rfl rfl).trans (by kernel_rfl)
theorem g111 (a0 : A) : G 111 [a0] =
  (pBin .geq false a0 (vy 97)).bind fun t0 =>
  (pG t0 true (some a0)).bind fun t1 =>
  (pG t0 true (pBin .leq false t1 (vy 122))).bind fun t2 =>
  (pPick t0 t2 (vb false)).bind fun t3 =>
  some ((t3, [])) :=
  (G_eq rfl Try.func111 rfl rfl).trans (by kernel_rfl)
theorem g112 (a0 : A) : G 112 [a0] =
  (pBin .geq false a0 (vy 48)).bind fun t0 =>
  (pG t0 true (some a0)).bind fun t1 =>
  (pG t0 true (pBin .leq false t1 (vy 57))).bind fun t2 =>
  (pPick t0 t2 (vb false)).bind fun t3 =>
  some ((t3, [])) :=
  (G_eq rfl Try.func112 rfl rfl).trans (by kernel_rfl)
theorem g113 (a0 a1 : A) : G 113 [a0, a1] =
  ((G 138 [a0, a1]).bind (fin false)).bind fun t0 =>
  (pBin .geq false t0 (vi 0)).bind fun t1 =>
  some ((t1, [])) :=
  (G_eq rfl Try.func113 rfl rfl).trans (by kernel_rfl)
theorem g114 : G 114 [] =
  some ((A.sl 1 [[sv [116, 114, 117, 101]], [sv [102, 97, 108, 115, 101]], [sv [116, 114, 117, 116, 104]], [sv [98, 111, 116, 104]], [sv [101, 105, 116, 104, 101, 114]], [sv [105, 102]], [sv [97, 108, 108]], [sv [115, 111, 109, 101]]], [])) :=
  (G_eq rfl Try.func114 rfl rfl).trans (by kernel_rfl)
theorem g115 (a0 a1 a2 : A) : G 115 [a0, a1, a2] =
  (pLenL a0).bind fun t0 =>
  (pLenL a1).bind fun t1 =>
  (pBin .neq false t0 t1).bind fun t2 =>
  (pBool t2).bind fun t3 =>
  brn t3 (
    some ((vb false, []))) (
    (pLenL a0).bind fun t4 =>
    L115_0 a1 a2 a0 t4 (vi 0)) :=
  (G_eq rfl Try.func115 rfl rfl).trans (by kernel_rfl)
theorem l115_0 (x0 x1 x2 x3 x4 : A) : L115_0 x0 x1 x2 x3 x4 =
  (pBin .lss false x4 x3).bind fun t5 =>
  (pBool t5).bind fun t6 =>
  brn t6 (
    (pIndexAddr 2 x2 x4).bind fun t7 =>
    (pLoadN 2 t7).bind fun t8 =>
    (pCells 2 t8).bind fun t9 =>
    (pIndexAddr 2 x0 x4).bind fun t10 =>
    (pLoadN 2 t10).bind fun t11 =>
    (pCells 2 t11).bind fun t12 =>
    (DX.run K (MM K) (.callc x1 [A.agg [cGet t9 0, cGet t9 1], A.agg [cGet t12 0, cGet t12 1]] false)).bind fun t13 =>
    (pUn .not t13).bind fun t14 =>
    (pBool t14).bind fun t15 =>
    brn t15 (
      some ((vb false, []))) (
      (pBin .add false x4 (vi 1)).bind fun t16 =>
      L115_0 x0 x1 x2 x3 t16)) (
    some ((vb true, []))) :=
  (H_eq Try.func115 rfl).trans (by kernel_rfl)
theorem g117 (a0 a1 : A) : G 117 [a0, a1] =
  (pBool (vb false)).bind fun t0 =>
  brn t0 (
    (pConv .u32 a0).bind fun t1 =>
    (pConv .u32 a1).bind fun t2 =>
    ((G 148 [t1, t2]).bind (fin false)).bind fun t3 =>
    (pTup t3 0).bind fun t4 =>
    (pTup t3 1).bind fun t5 =>
    (pConv .u64 t4).bind fun t6 =>
    (pConv .u64 t5).bind fun t7 =>
    some ((A.tup [t6, t7], []))) (
    ((G 149 [a0, a1]).bind (fin false)).bind fun t8 =>
    (pTup t8 0).bind fun t9 =>
    (pTup t8 1).bind fun t10 =>
    some ((A.tup [t9, t10], []))) :=
  (G_eq rfl Try.func117 rfl rfl).trans (by kernel_rfl)
theorem g118 (a0 a1 a2 : A) : G 118 [a0, a1, a2] =
  (pBool a0).bind fun t0 =>
  brn t0 (
    some ((vi 1, []))) (
    (DX.run K (MM K) (.callc a1 [] false)).bind fun t1 =>
    (pBool t1).bind fun t2 =>
    brn t2 (
      some ((vi 2, []))) (
      (DX.run K (MM K) (.callc a2 [] false)).bind fun t3 =>
      (pBool t3).bind fun t4 =>
      brn t4 (
        some ((vi 3, []))) (
        some ((vi 0, []))))) :=
  (G_eq rfl Try.func118 rfl rfl).trans (by kernel_rfl)
theorem g119 (a0 a1 a2 : A) : G 119 [a0, a1, a2] =
  (pLoadN 3 a0).bind fun t0 =>
  (pLoadN 2 a1).bind fun t1 =>
  (pLoadN 2 a2).bind fun t2 =>
  ((G 120 [t0, t1, t2]).bind (fin false)).bind fun t3 =>
  some ((t3, [])) :=
  (G_eq rfl Try.func119 rfl rfl).trans (by kernel_rfl)
theorem g120 (a0 a1 a2 : A) : G 120 [a0, a1, a2] =
  (pCells 3 a0).bind fun t0 =>
  (pCells 2 a1).bind fun t1 =>
  (pCells 2 a2).bind fun t2 =>
  ((G 150 [A.agg [cGet t2 0, cGet t2 1]]).bind (fin false)).bind fun t3 =>
  (pLenL t3).bind fun t4 =>
  L120_0 t3 t4 (vi 0) (cGet t0 0) (cGet t0 1) (cGet t0 2) (cGet t1 0) (cGet t1 1) (cGet t2 0) (cGet t2 1) :=
  (G_eq rfl Try.func120 rfl rfl).trans (by kernel_rfl)
theorem l120_0 (x0 x1 x2 x3 x4 x5 x6 x7 x8 x9 : A) : L120_0 x0 x1 x2 x3 x4 x5 x6 x7 x8 x9 =
  (pBin .lss false x2 x1).bind fun t5 =>
  (pBool t5).bind fun t6 =>
  brn t6 (
    (pIndexAddr 1 x0 x2).bind fun t7 =>
    (pLoadP t7).bind fun t8 =>
    ((G 151 [A.agg [x6, x7], t8]).bind (fin false)).bind fun t9 =>
    ((G 151 [A.agg [x8, x9], t8]).bind (fin false)).bind fun t10 =>
    (pBin .lss false t9 t10).bind fun t11 =>
    (pBool t11).bind fun t12 =>
    brn t12 (
      some ((vb false, []))) (
      (pBin .add false x2 (vi 1)).bind fun t13 =>
      L120_0 x0 x1 t13 x3 x4 x5 x6 x7 x8 x9)) (
    ((G 152 [A.agg [x3, x4, x5], A.agg [x6, x7]]).bind (fin false)).bind fun t14 =>
    ((G 152 [A.agg [x3, x4, x5], A.agg [x8, x9]]).bind (fin false)).bind fun t15 =>
    (pBin .neq false t14 t15).bind fun t16 =>
    (pWant t16 false).bind fun t17 =>
    (pG t16 false ((G 153 [A.agg [x6, x7]]).bind (fin false))).bind fun t18 =>
    (pPick t16 (vb true) t18).bind fun t19 =>
    (pWant t19 false).bind fun t20 =>
    (pG t19 false ((G 153 [A.agg [x8, x9]]).bind (fin false))).bind fun t21 =>
    (pPick t19 (vb true) t21).bind fun t22 =>
    (pBool t22).bind fun t23 =>
    brn t23 (
      (pBin .gtr false t14 t15).bind fun t24 =>
      some ((t24, []))) (
      ((G 154 [A.agg [x3, x4, x5], A.agg [x8, x9], A.agg [x6, x7]]).bind (fin false)).bind fun t25 =>
      (pBool t25).bind fun t26 =>
      brn t26 (
        some ((vb true, []))) (
        ((G 155 [A.agg [x6, x7], A.agg [x8, x9]]).bind (fin false)).bind fun t27 =>
        (pTup t27 0).bind fun t28 =>
        (pTup t27 1).bind fun t29 =>
        (pTup t27 2).bind fun t30 =>
        (pCells 2 t28).bind fun t31 =>
        (pCells 2 t29).bind fun t32 =>
        (pWant t30 true).bind fun t33 =>
        (pWant t30 true).bind fun t34 =>
        (pWant t30 true).bind fun t35 =>
        (pG t30 true ((G 120 [A.agg [x3, x4, x5], A.agg [cGet t31 0, cGet t31 1], A.agg [cGet t32 0, cGet t32 1]]).bind (fin false))).bind fun t36 =>
        (pPick t30 t36 (vb false)).bind fun t37 =>
        some ((t37, []))))) :=
  (H_eq Try.func120 rfl).trans (by kernel_rfl)
theorem g121 (a0 a1 a2 : A) : G 121 [a0, a1, a2] =
  (pLoadN 3 a0).bind fun t0 =>
  (pLoadN 2 a1).bind fun t1 =>
  (pLoadN 2 a2).bind fun t2 =>
  ((G 120 [t0, t1, t2]).bind (fin false)).bind fun t3 =>
  some ((t3, [])) :=
  (G_eq rfl Try.func121 rfl rfl).trans (by kernel_rfl)
theorem g127 (a0 a1 : A) : G 127 [a0, a1] =
  (pCells 2 a0).bind fun t0 =>
  L127_0 a1 (vi 1) (vi 0) (cGet t0 0) (cGet t0 1) :=
  (G_eq rfl Try.func127 rfl rfl).trans (by kernel_rfl)
theorem l127_0 (x0 x1 x2 x3 x4 : A) : L127_0 x0 x1 x2 x3 x4 =
  (pLenL x4).bind fun t1 =>
  (pBin .lss false x2 t1).bind fun t2 =>
  (pG t2 true (some x1)).bind fun t3 =>
  (pG t2 true (some x0)).bind fun t4 =>
  (pG t2 true (pBin .leq false t3 t4)).bind fun t5 =>
  (pPick t2 t5 (vb false)).bind fun t6 =>
  (pBool t6).bind fun t7 =>
  brn t7 (
    (pIndexAddr 2 x4 x2).bind fun t8 =>
    (pLoadN 2 t8).bind fun t9 =>
    (pBin .sub false x0 x1).bind fun t10 =>
    ((G 127 [t9, t10]).bind (fin false)).bind fun t11 =>
    (pBin .add false x1 t11).bind fun t12 =>
    (pBin .add false x2 (vi 1)).bind fun t13 =>
    L127_0 x0 t12 t13 x3 x4) (
    some ((x1, []))) :=
  (H_eq Try.func127 rfl).trans (by kernel_rfl)
theorem g128 (a0 : A) : G 128 [a0] =
  (pCells 2 a0).bind fun t0 =>
  L128_0 (vi 0) (vi 0) (cGet t0 0) (cGet t0 1) :=
  (G_eq rfl Try.func128 rfl rfl).trans (by kernel_rfl)
theorem l128_0 (x0 x1 x2 x3 : A) : L128_0 x0 x1 x2 x3 =
  (pLenL x3).bind fun t1 =>
  (pBin .lss false x1 t1).bind fun t2 =>
  (pBool t2).bind fun t3 =>
  brn t3 (
    (pIndexAddr 2 x3 x1).bind fun t4 =>
    (pLoadN 2 t4).bind fun t5 =>
    ((G 128 [t5]).bind (fin false)).bind fun t6 =>
    ((G 59 [x0, t6]).bind (fin false)).bind fun t7 =>
    (pBin .add false x1 (vi 1)).bind fun t8 =>
    L128_0 t7 t8 x2 x3) (
    (pBin .add false x0 (vi 1)).bind fun t9 =>
    some ((t9, []))) :=
  (H_eq Try.func128 rfl).trans (by kernel_rfl)
theorem g129 (a0 : A) : G 129 [a0] =
  (pLenS a0).bind fun t0 =>
  ((G 35 [t0, vi 1, vi 4]).bind (fin false)).bind fun t1 =>
  (pUn .not t1).bind fun t2 =>
  (pG t2 false (some a0)).bind fun t3 =>
  (pG t2 false (pIndexS t3 (vi 0))).bind fun t4 =>
  (pG t2 false (pBin .lss false t4 (vy 65))).bind fun t5 =>
  (pPick t2 (vb true) t5).bind fun t6 =>
  (pG t6 false (some a0)).bind fun t7 =>
  (pG t6 false (pIndexS t7 (vi 0))).bind fun t8 =>
  (pG t6 false (pBin .gtr false t8 (vy 90))).bind fun t9 =>
  (pPick t6 (vb true) t9).bind fun t10 =>
  (pBool t10).bind fun t11 =>
  brn t11 (
    some ((vb false, []))) (
    L129_0 a0 (vi 1)) :=
  (G_eq rfl Try.func129 rfl rfl).trans (by kernel_rfl)
theorem l129_0 (x0 x1 : A) : L129_0 x0 x1 =
  (pLenS x0).bind fun t12 =>
  (pBin .lss false x1 t12).bind fun t13 =>
  (pBool t13).bind fun t14 =>
  brn t14 (
    (pIndexS x0 x1).bind fun t15 =>
    ((G 130 [t15]).bind (fin false)).bind fun t16 =>
    (pUn .not t16).bind fun t17 =>
    (pBool t17).bind fun t18 =>
    brn t18 (
      some ((vb false, []))) (
      (pBin .add false x1 (vi 1)).bind fun t19 =>
      L129_0 x0 t19)) (
    some ((vb true, []))) :=
  (H_eq Try.func129 rfl).trans (by kernel_rfl)
theorem g130 (a0 : A) : G 130 [a0] =
  (pBin .geq false a0 (vy 97)).bind fun t0 =>
  (pG t0 true (some a0)).bind fun t1 =>
  (pG t0 true (pBin .leq false t1 (vy 122))).bind fun t2 =>
  (pPick t0 t2 (vb false)).bind fun t3 =>
  (pG t3 false (some a0)).bind fun t4 =>
  (pG t3 false (pBin .geq false t4 (vy 48))).bind fun t5 =>
  (pG t3 false (some t5)).bind fun t6 =>
  (pG t6 true (some a0)).bind fun t7 =>
  (pG t6 true (pBin .leq false t7 (vy 57))).bind fun t8 =>
  (pG t3 false (pPick t6 t8 (vb false))).bind fun t9 =>
  (pPick t3 (vb true) t9).bind fun t10 =>
  some ((t10, [])) :=
  (G_eq rfl Try.func130 rfl rfl).trans (by kernel_rfl)
theorem g131 (a0 a1 : A) : G 131 [a0, a1] =
  L131_0 a0 a1 (vi 0) :=
  (G_eq rfl Try.func131 rfl rfl).trans (by kernel_rfl)
theorem l131_0 (x0 x1 x2 : A) : L131_0 x0 x1 x2 =
  (pLenL x0).bind fun t0 =>
  (pBin .lss false x2 t0).bind fun t1 =>
  (pG t1 true (some x0)).bind fun t2 =>
  (pG t1 true (some x2)).bind fun t3 =>
  (pG t1 true (pIndexAddr 1 t2 t3)).bind fun t4 =>
  (pG t1 true (pLoadP t4)).bind fun t5 =>
  (pG t1 true (some x1)).bind fun t6 =>
  (pG t1 true (pBin .lss false t5 t6)).bind fun t7 =>
  (pPick t1 t7 (vb false)).bind fun t8 =>
  (pBool t8).bind fun t9 =>
  brn t9 (
    (pBin .add false x2 (vi 1)).bind fun t10 =>
    L131_0 x0 x1 t10) (
    (pLenL x0).bind fun t11 =>
    (pBin .lss false x2 t11).bind fun t12 =>
    (pG t12 true (some x0)).bind fun t13 =>
    (pG t12 true (some x2)).bind fun t14 =>
    (pG t12 true (pIndexAddr 1 t13 t14)).bind fun t15 =>
    (pG t12 true (pLoadP t15)).bind fun t16 =>
    (pG t12 true (some x1)).bind fun t17 =>
    (pG t12 true (pBin .eql false t16 t17)).bind fun t18 =>
    (pPick t12 t18 (vb false)).bind fun t19 =>
    (pBool t19).bind fun t20 =>
    brn t20 (
      some ((x0, []))) (
      (pSlice 1 x0 none (some x2)).bind fun t21 =>
      (pRows 1 t21).bind fun t22 =>
      brn (pFit (rLenN t22) 16) (
        brn (okA x1) (
          brn (pFit ((rLenN t22) + (rLenN [[x1]])) 16) (
            (pSlice 1 x0 (some x2) none).bind fun t23 =>
            (pRows 1 t23).bind fun t24 =>
            brn (pFit ((rLenN (rApp t22 [[x1]])) + (rLenN t24)) 16) (
              some ((A.sl 1 (rApp (rApp t22 [[x1]]) t24), []))) (
              none)) (
            none)) (
          none)) (
        none))) :=
  (H_eq Try.func131 rfl).trans (by kernel_rfl)
theorem g132 (a0 : A) : G 132 [a0] =
  (pCells 3 a0).bind fun t0 =>
  (pLenL (cGet t0 0)).bind fun t1 =>
  ((G 35 [t1, vi 1, vi 12]).bind (fin false)).bind fun t2 =>
  (pUn .not t2).bind fun t3 =>
  (pWant t3 false).bind fun t4 =>
  (pG t3 false (some (cGet t0 1))).bind fun t5 =>
  (pG t3 false (pLenL t5)).bind fun t6 =>
  (pWant t3 false).bind fun t7 =>
  (pG t3 false (some (cGet t0 0))).bind fun t8 =>
  (pG t3 false (pLenL t8)).bind fun t9 =>
  (pG t3 false (pBin .neq false t6 t9)).bind fun t10 =>
  (pPick t3 (vb true) t10).bind fun t11 =>
  (pWant t11 false).bind fun t12 =>
  (pG t11 false (some (cGet t0 2))).bind fun t13 =>
  (pG t11 false ((G 35 [t13, vi 1, vi 100]).bind (fin false))).bind fun t14 =>
  (pG t11 false (pUn .not t14)).bind fun t15 =>
  (pPick t11 (vb true) t15).bind fun t16 =>
  (pBool t16).bind fun t17 =>
  brn t17 (
    some ((vb false, []))) (
    L132_0 (vi 0) (cGet t0 0) (cGet t0 1) (cGet t0 2)) :=
  (G_eq rfl Try.func132 rfl rfl).trans (by kernel_rfl)
theorem l132_0 (x0 x1 x2 x3 : A) : L132_0 x0 x1 x2 x3 =
  (pLenL x1).bind fun t18 =>
  (pBin .lss false x0 t18).bind fun t19 =>
  (pBool t19).bind fun t20 =>
  brn t20 (
    (pIndexAddr 1 x1 x0).bind fun t21 =>
    (pLoadP t21).bind fun t22 =>
    ((G 101 [t22]).bind (fin false)).bind fun t23 =>
    (pUn .not t23).bind fun t24 =>
    (pWant t24 false).bind fun t25 =>
    (pG t24 false (some x1)).bind fun t26 =>
    (pG t24 false (some x0)).bind fun t27 =>
    (pG t24 false (pSlice 1 t26 none (some t27))).bind fun t28 =>
    (pWant t24 false).bind fun t29 =>
    (pG t24 false (some x1)).bind fun t30 =>
    (pG t24 false (some x0)).bind fun t31 =>
    (pG t24 false (pIndexAddr 1 t30 t31)).bind fun t32 =>
    (pG t24 false (pLoadP t32)).bind fun t33 =>
    (pG t24 false ((G 157 [t28, t33]).bind (fin false))).bind fun t34 =>
    (pPick t24 (vb true) t34).bind fun t35 =>
    (pWant t35 false).bind fun t36 =>
    (pG t35 false (some x2)).bind fun t37 =>
    (pG t35 false (some x0)).bind fun t38 =>
    (pG t35 false (pIndexAddr 1 t37 t38)).bind fun t39 =>
    (pG t35 false (pLoadP t39)).bind fun t40 =>
    (pWant t35 false).bind fun t41 =>
    (pG t35 false (some x3)).bind fun t42 =>
    (pG t35 false ((G 35 [t40, t42, vi 100]).bind (fin false))).bind fun t43 =>
    (pG t35 false (pUn .not t43)).bind fun t44 =>
    (pPick t35 (vb true) t44).bind fun t45 =>
    (pBool t45).bind fun t46 =>
    brn t46 (
      some ((vb false, []))) (
      (pBin .add false x0 (vi 1)).bind fun t47 =>
      L132_0 t47 x1 x2 x3)) (
    some ((vb true, []))) :=
  (H_eq Try.func132 rfl).trans (by kernel_rfl)
theorem g133 (a0 a1 : A) : G 133 [a0, a1] =
  (pCells 3 a0).bind fun t0 =>
  (pCells 2 a1).bind fun t1 =>
  ((G 102 [A.agg [cGet t1 0, cGet t1 1]]).bind (fin false)).bind fun t2 =>
  (pWant t2 true).bind fun t3 =>
  (pWant t2 true).bind fun t4 =>
  (pG t2 true ((G 158 [A.agg [cGet t0 0, cGet t0 1, cGet t0 2], A.agg [cGet t1 0, cGet t1 1]]).bind (fin false))).bind fun t5 =>
  (pPick t2 t5 (vb false)).bind fun t6 =>
  some ((t6, [])) :=
  (G_eq rfl Try.func133 rfl rfl).trans (by kernel_rfl)
theorem g134 (a0 a1 a2 : A) : G 134 [a0, a1, a2] =
  (pBool a0).bind fun t0 =>
  brn t0 (
    some ((vi 1, []))) (
    (pBool a1).bind fun t1 =>
    brn t1 (
      some ((vi 2, []))) (
      (pBool a2).bind fun t2 =>
      brn t2 (
        some ((vi 3, []))) (
        some ((vi 0, []))))) :=
  (G_eq rfl Try.func134 rfl rfl).trans (by kernel_rfl)
theorem g135 (a0 a1 a2 : A) : G 135 [a0, a1, a2] =
  (pCells 3 a0).bind fun t0 =>
  (pCells 2 a1).bind fun t1 =>
  (pCells 2 a2).bind fun t2 =>
  ((G 159 [A.agg [cGet t1 0, cGet t1 1], A.agg [cGet t2 0, cGet t2 1]]).bind (fin false)).bind fun t3 =>
  (pUn .not t3).bind fun t4 =>
  (pBool t4).bind fun t5 =>
  brn t5 (
    some ((vb false, []))) (
    ((G 160 [A.agg [cGet t0 0, cGet t0 1, cGet t0 2], A.agg [cGet t1 0, cGet t1 1]]).bind (fin false)).bind fun t6 =>
    ((G 160 [A.agg [cGet t0 0, cGet t0 1, cGet t0 2], A.agg [cGet t2 0, cGet t2 1]]).bind (fin false)).bind fun t7 =>
    (pBin .neq false t6 t7).bind fun t8 =>
    (pBool t8).bind fun t9 =>
    brn t9 (
      (pBin .gtr false t6 t7).bind fun t10 =>
      some ((t10, []))) (
      ((G 129 [cGet t1 0]).bind (fin false)).bind fun t11 =>
      (pWant t11 false).bind fun t12 =>
      (pG t11 false (some (cGet t2 0))).bind fun t13 =>
      (pG t11 false ((G 129 [t13]).bind (fin false))).bind fun t14 =>
      (pPick t11 (vb true) t14).bind fun t15 =>
      (pBool t15).bind fun t16 =>
      brn t16 (
        some ((vb false, []))) (
        ((G 161 [A.agg [cGet t0 0, cGet t0 1, cGet t0 2], A.agg [cGet t1 0, cGet t1 1], A.agg [cGet t2 0, cGet t2 1]]).bind (fin false)).bind fun t17 =>
        (pBin .neq false t17 (vi 0)).bind fun t18 =>
        (pBool t18).bind fun t19 =>
        brn t19 (
          (pBin .gtr false t17 (vi 0)).bind fun t20 =>
          some ((t20, []))) (
          ((G 162 [A.agg [cGet t1 0, cGet t1 1], A.agg [cGet t2 0, cGet t2 1]]).bind (fin false)).bind fun t21 =>
          (pBin .geq false t21 (vi 0)).bind fun t22 =>
          (pWant t22 true).bind fun t23 =>
          (pWant t22 true).bind fun t24 =>
          (pG t22 true (some (cGet t1 1))).bind fun t25 =>
          (pG t22 true (some t21)).bind fun t26 =>
          (pG t22 true (pIndexAddr 2 t25 t26)).bind fun t27 =>
          (pG t22 true (pLoadN 2 t27)).bind fun t28 =>
          (pWant t22 true).bind fun t29 =>
          (pG t22 true (some (cGet t2 1))).bind fun t30 =>
          (pG t22 true (some t21)).bind fun t31 =>
          (pG t22 true (pIndexAddr 2 t30 t31)).bind fun t32 =>
          (pG t22 true (pLoadN 2 t32)).bind fun t33 =>
          (pG t22 true ((G 135 [A.agg [cGet t0 0, cGet t0 1, cGet t0 2], t28, t33]).bind (fin false))).bind fun t34 =>
          (pPick t22 t34 (vb false)).bind fun t35 =>
          some ((t35, [])))))) :=
  (G_eq rfl Try.func135 rfl rfl).trans (by kernel_rfl)
theorem g136 (a0 : A) : G 136 [a0] =
  (pBin .geq false a0 (vy 65)).bind fun t0 =>
  (pG t0 true (some a0)).bind fun t1 =>
  (pG t0 true (pBin .leq false t1 (vy 90))).bind fun t2 =>
  (pPick t0 t2 (vb false)).bind fun t3 =>
  some ((t3, [])) :=
  (G_eq rfl Try.func136 rfl rfl).trans (by kernel_rfl)
theorem g137 (a0 a1 : A) : G 137 [a0, a1] =
  (pLenL a0).bind fun t0 =>
  L137_0 a0 a1 t0 (vi 0) :=
  (G_eq rfl Try.func137 rfl rfl).trans (by kernel_rfl)
theorem l137_0 (x0 x1 x2 x3 : A) : L137_0 x0 x1 x2 x3 =
  (pBin .lss false x3 x2).bind fun t1 =>
  (pBool t1).bind fun t2 =>
  brn t2 (
    (pIndexAddr 2 x0 x3).bind fun t3 =>
    (pLoadN 2 t3).bind fun t4 =>
    (DX.run K (MM K) (.callc x1 [t4] false)).bind fun t5 =>
    (pBool t5).bind fun t6 =>
    brn t6 (
      some ((x3, []))) (
      (pBin .add false x3 (vi 1)).bind fun t7 =>
      L137_0 x0 x1 x2 t7)) (
    some ((vi (-1), []))) :=
  (H_eq Try.func137 rfl).trans (by kernel_rfl)
theorem g138 (a0 a1 : A) : G 138 [a0, a1] =
  (pLenL a0).bind fun t0 =>
  L138_0 a0 a1 t0 (vi 0) :=
  (G_eq rfl Try.func138 rfl rfl).trans (by kernel_rfl)
theorem l138_0 (x0 x1 x2 x3 : A) : L138_0 x0 x1 x2 x3 =
  (pBin .lss false x3 x2).bind fun t1 =>
  (pBool t1).bind fun t2 =>
  brn t2 (
    (pIndexAddr 1 x0 x3).bind fun t3 =>
    (pLoadP t3).bind fun t4 =>
    (pBin .eql false x1 t4).bind fun t5 =>
    (pBool t5).bind fun t6 =>
    brn t6 (
      some ((x3, []))) (
      (pBin .add false x3 (vi 1)).bind fun t7 =>
      L138_0 x0 x1 x2 t7)) (
    some ((vi (-1), []))) :=
  (H_eq Try.func138 rfl).trans (by kernel_rfl)
theorem g148 (a0 a1 : A) : G 148 [a0, a1] =
  (pConv .u64 a0).bind fun t0 =>
  (pConv .u64 a1).bind fun t1 =>
  (pBin .mul false t0 t1).bind fun t2 =>
  (pBin .shr false t2 (A.val (.int .u64 32))).bind fun t3 =>
  (pConv .u32 t3).bind fun t4 =>
  (pConv .u32 t2).bind fun t5 =>
  some ((A.tup [t4, t5], [])) :=
  (G_eq rfl Try.func148 rfl rfl).trans (by kernel_rfl)
theorem g149 (a0 a1 : A) : G 149 [a0, a1] =
  (pBin .and false a0 (A.val (.int .u64 4294967295))).bind fun t0 =>
  (pBin .shr false a0 (A.val (.int .u64 32))).bind fun t1 =>
  (pBin .and false a1 (A.val (.int .u64 4294967295))).bind fun t2 =>
  (pBin .shr false a1 (A.val (.int .u64 32))).bind fun t3 =>
  (pBin .mul false t0 t2).bind fun t4 =>
  (pBin .mul false t1 t2).bind fun t5 =>
  (pBin .shr false t4 (A.val (.int .u64 32))).bind fun t6 =>
  (pBin .add false t5 t6).bind fun t7 =>
  (pBin .and false t7 (A.val (.int .u64 4294967295))).bind fun t8 =>
  (pBin .shr false t7 (A.val (.int .u64 32))).bind fun t9 =>
  (pBin .mul false t0 t3).bind fun t10 =>
  (pBin .add false t8 t10).bind fun t11 =>
  (pBin .mul false t1 t3).bind fun t12 =>
  (pBin .add false t12 t9).bind fun t13 =>
  (pBin .shr false t11 (A.val (.int .u64 32))).bind fun t14 =>
  (pBin .add false t13 t14).bind fun t15 =>
  (pBin .mul false a0 a1).bind fun t16 =>
  some ((A.tup [t15, t16], [])) :=
  (G_eq rfl Try.func149 rfl rfl).trans (by kernel_rfl)
theorem g150 (a0 : A) : G 150 [a0] =
  (pCells 2 a0).bind fun t0 =>
  (C167_0 (cGet t0 0) (cGet t0 1) []).bind fun t1 =>
  (hR 1 t1 0).bind fun t2 =>
  (C84_0 t2).bind fun t3 =>
  (hR 1 t3 0).bind fun t4 =>
  some ((A.sl 1 t4, [])) :=
  (G_eq rfl Try.func150 rfl rfl).trans (by kernel_rfl)
theorem g151 (a0 a1 : A) : G 151 [a0, a1] =
  (pCells 2 a0).bind fun t0 =>
  (pBin .eql false (cGet t0 0) a1).bind fun t1 =>
  (pBool t1).bind fun t2 =>
  brn t2 (
    (pLenL (cGet t0 1)).bind fun t3 =>
    L151_0 a1 (vi 1) (cGet t0 1) t3 (vi 0)) (
    (pLenL (cGet t0 1)).bind fun t4 =>
    L151_0 a1 (vi 0) (cGet t0 1) t4 (vi 0)) :=
  (G_eq rfl Try.func151 rfl rfl).trans (by kernel_rfl)
theorem l151_0 (x0 x1 x2 x3 x4 : A) : L151_0 x0 x1 x2 x3 x4 =
  (pBin .lss false x4 x3).bind fun t5 =>
  (pBool t5).bind fun t6 =>
  brn t6 (
    (pIndexAddr 2 x2 x4).bind fun t7 =>
    (pLoadN 2 t7).bind fun t8 =>
    (pCells 2 t8).bind fun t9 =>
    ((G 151 [A.agg [cGet t9 0, cGet t9 1], x0]).bind (fin false)).bind fun t10 =>
    (pBin .add false x1 t10).bind fun t11 =>
    (pBin .add false x4 (vi 1)).bind fun t12 =>
    L151_0 x0 t11 x2 x3 t12) (
    some ((x1, []))) :=
  (H_eq Try.func151 rfl).trans (by kernel_rfl)
theorem g152 (a0 a1 : A) : G 152 [a0, a1] =
  (pCells 3 a0).bind fun t0 =>
  (pCells 2 a1).bind fun t1 =>
  ((G 153 [A.agg [cGet t1 0, cGet t1 1]]).bind (fin false)).bind fun t2 =>
  (pBool t2).bind fun t3 =>
  brn t3 (
    some ((cGet t0 2, []))) (
    ((G 138 [cGet t0 0, cGet t1 0]).bind (fin false)).bind fun t4 =>
    (pIndexAddr 1 (cGet t0 1) t4).bind fun t5 =>
    (pLoadP t5).bind fun t6 =>
    (pLenL (cGet t1 1)).bind fun t7 =>
    L152_0 t6 (cGet t1 1) t7 (vi 0) (cGet t0 0) (cGet t0 1) (cGet t0 2)) :=
  (G_eq rfl Try.func152 rfl rfl).trans (by kernel_rfl)
theorem l152_0 (x0 x1 x2 x3 x4 x5 x6 : A) : L152_0 x0 x1 x2 x3 x4 x5 x6 =
  (pBin .lss false x3 x2).bind fun t8 =>
  (pBool t8).bind fun t9 =>
  brn t9 (
    (pIndexAddr 2 x1 x3).bind fun t10 =>
    (pLoadN 2 t10).bind fun t11 =>
    (pCells 2 t11).bind fun t12 =>
    ((G 152 [A.agg [x4, x5, x6], A.agg [cGet t12 0, cGet t12 1]]).bind (fin false)).bind fun t13 =>
    (pBin .add false x0 t13).bind fun t14 =>
    (pBin .add false x3 (vi 1)).bind fun t15 =>
    L152_0 t14 x1 x2 t15 x4 x5 x6) (
    some ((x0, []))) :=
  (H_eq Try.func152 rfl).trans (by kernel_rfl)
theorem g153 (a0 : A) : G 153 [a0] =
  (pCells 2 a0).bind fun t0 =>
  (pIndexS (cGet t0 0) (vi 0)).bind fun t1 =>
  ((G 136 [t1]).bind (fin false)).bind fun t2 =>
  some ((t2, [])) :=
  (G_eq rfl Try.func153 rfl rfl).trans (by kernel_rfl)
theorem g154 (a0 a1 a2 : A) : G 154 [a0, a1, a2] =
  (pCells 3 a0).bind fun t0 =>
  (pCells 2 a1).bind fun t1 =>
  (pCells 2 a2).bind fun t2 =>
  ((G 138 [cGet t0 0, cGet t1 0]).bind (fin false)).bind fun t3 =>
  ((G 138 [cGet t0 0, cGet t2 0]).bind (fin false)).bind fun t4 =>
  (pBin .lss false t3 t4).bind fun t5 =>
  (pG t5 false (some t3)).bind fun t6 =>
  (pG t5 false (some t4)).bind fun t7 =>
  (pG t5 false (pBin .eql false t6 t7)).bind fun t8 =>
  (pG t5 false (some t8)).bind fun t9 =>
  (pWant t9 true).bind fun t10 =>
  (pG t9 true (some (cGet t1 1))).bind fun t11 =>
  (pG t9 true (pLenL t11)).bind fun t12 =>
  (pWant t9 true).bind fun t13 =>
  (pG t9 true (some (cGet t2 1))).bind fun t14 =>
  (pG t9 true (pLenL t14)).bind fun t15 =>
  (pG t9 true (pBin .lss false t12 t15)).bind fun t16 =>
  (pG t5 false (pPick t9 t16 (vb false))).bind fun t17 =>
  (pPick t5 (vb true) t17).bind fun t18 =>
  some ((t18, [])) :=
  (G_eq rfl Try.func154 rfl rfl).trans (by kernel_rfl)
theorem g155 (a0 a1 : A) : G 155 [a0, a1] =
  (pCells 2 a0).bind fun t0 =>
  (pCells 2 a1).bind fun t1 =>
  (pBin .neq false (cGet t0 0) (cGet t1 0)).bind fun t2 =>
  (pWant t2 false).bind fun t3 =>
  (pG t2 false (some (cGet t0 1))).bind fun t4 =>
  (pG t2 false (pLenL t4)).bind fun t5 =>
  (pWant t2 false).bind fun t6 =>
  (pG t2 false (some (cGet t1 1))).bind fun t7 =>
  (pG t2 false (pLenL t7)).bind fun t8 =>
  (pG t2 false (pBin .neq false t5 t8)).bind fun t9 =>
  (pPick t2 (vb true) t9).bind fun t10 =>
  (pBool t10).bind fun t11 =>
  brn t11 (
    some ((A.tup [A.agg [sv [], A.sl 2 []], A.agg [sv [], A.sl 2 []], vb false], []))) (
    (pLenL (cGet t0 1)).bind fun t12 =>
    L155_0 (cGet t0 1) t12 (vi 0) (cGet t1 0) (cGet t1 1) (sv []) (sv []) [] []) :=
  (G_eq rfl Try.func155 rfl rfl).trans (by kernel_rfl)
theorem l155_0 (x0 x1 x2 x3 x4 x5 x6 : A) (r0 r1 : List (List A)) : L155_0 x0 x1 x2 x3 x4 x5 x6 r0 r1 =
  (pBin .lss false x2 x1).bind fun t13 =>
  (pBool t13).bind fun t14 =>
  brn t14 (
    (pIndexAddr 2 x0 x2).bind fun t15 =>
    (pLoadN 2 t15).bind fun t16 =>
    (pCells 2 t16).bind fun t17 =>
    (pIndexAddr 2 x4 x2).bind fun t18 =>
    (pLoadN 2 t18).bind fun t19 =>
    ((G 82 [A.agg [cGet t17 0, cGet t17 1], t19]).bind (fin false)).bind fun t20 =>
    (pUn .not t20).bind fun t21 =>
    (pBool t21).bind fun t22 =>
    brn t22 (
      (pIndexAddr 2 x4 x2).bind fun t23 =>
      (pLoadN 2 t23).bind fun t24 =>
      brn (okA (cGet t17 0)) (
        brn (okA (cGet t17 1)) (
          (pCells 2 t24).bind fun t25 =>
          some ((A.tup [A.agg [cGet t17 0, cGet t17 1], A.agg [cGet t25 0, cGet t25 1], vb true], []))) (
          none)) (
        none)) (
      (pBin .add false x2 (vi 1)).bind fun t26 =>
      L155_0 x0 x1 t26 x3 x4 x5 x6 r0 r1)) (
    some ((A.tup [A.agg [sv [], A.sl 2 []], A.agg [sv [], A.sl 2 []], vb false], []))) :=
  (H_eq Try.func155 rfl).trans (by kernel_rfl)
theorem g157 (a0 a1 : A) : G 157 [a0, a1] =
  L157_0 a0 a1 (vi 0) :=
  (G_eq rfl Try.func157 rfl rfl).trans (by kernel_rfl)
theorem l157_0 (x0 x1 x2 : A) : L157_0 x0 x1 x2 =
  (pLenL x0).bind fun t0 =>
  (pBin .lss false x2 t0).bind fun t1 =>
  (pBool t1).bind fun t2 =>
  brn t2 (
    (pIndexAddr 1 x0 x2).bind fun t3 =>
    (pLoadP t3).bind fun t4 =>
    (pBin .eql false t4 x1).bind fun t5 =>
    (pBool t5).bind fun t6 =>
    brn t6 (
      some ((vb true, []))) (
      (pBin .add false x2 (vi 1)).bind fun t7 =>
      L157_0 x0 x1 t7)) (
    some ((vb false, []))) :=
  (H_eq Try.func157 rfl).trans (by kernel_rfl)
theorem g158 (a0 a1 : A) : G 158 [a0, a1] =
  (pCells 3 a0).bind fun t0 =>
  (pCells 2 a1).bind fun t1 =>
  ((G 129 [cGet t1 0]).bind (fin false)).bind fun t2 =>
  (pUn .not t2).bind fun t3 =>
  (pWant t3 true).bind fun t4 =>
  (pWant t3 true).bind fun t5 =>
  (pG t3 true (some (cGet t1 0))).bind fun t6 =>
  (pG t3 true ((G 168 [A.agg [cGet t0 0, cGet t0 1, cGet t0 2], t6]).bind (fin false))).bind fun t7 =>
  (pG t3 true (pBin .lss false t7 (vi 0))).bind fun t8 =>
  (pPick t3 t8 (vb false)).bind fun t9 =>
  (pBool t9).bind fun t10 =>
  brn t10 (
    some ((vb false, []))) (
    L158_0 (vi 0) (cGet t0 0) (cGet t0 1) (cGet t0 2) (cGet t1 0) (cGet t1 1)) :=
  (G_eq rfl Try.func158 rfl rfl).trans (by kernel_rfl)
theorem l158_0 (x0 x1 x2 x3 x4 x5 : A) : L158_0 x0 x1 x2 x3 x4 x5 =
  (pLenL x5).bind fun t11 =>
  (pBin .lss false x0 t11).bind fun t12 =>
  (pBool t12).bind fun t13 =>
  brn t13 (
    (pIndexAddr 2 x5 x0).bind fun t14 =>
    (pLoadN 2 t14).bind fun t15 =>
    ((G 158 [A.agg [x1, x2, x3], t15]).bind (fin false)).bind fun t16 =>
    (pUn .not t16).bind fun t17 =>
    (pBool t17).bind fun t18 =>
    brn t18 (
      some ((vb false, []))) (
      (pBin .add false x0 (vi 1)).bind fun t19 =>
      L158_0 t19 x1 x2 x3 x4 x5)) (
    some ((vb true, []))) :=
  (H_eq Try.func158 rfl).trans (by kernel_rfl)
theorem g159 (a0 a1 : A) : G 159 [a0, a1] =
  (pCells 2 a0).bind fun t0 =>
  (pCells 2 a1).bind fun t1 =>
  ((G 169 [A.agg [cGet t1 0, cGet t1 1]]).bind (fin false)).bind fun t2 =>
  L159_0 t2 (vi 0) (cGet t0 0) (cGet t0 1) (cGet t1 0) (cGet t1 1) :=
  (G_eq rfl Try.func159 rfl rfl).trans (by kernel_rfl)
theorem l159_0 (x0 x1 x2 x3 x4 x5 : A) : L159_0 x0 x1 x2 x3 x4 x5 =
  (pLenL x0).bind fun t3 =>
  (pBin .lss false x1 t3).bind fun t4 =>
  (pBool t4).bind fun t5 =>
  brn t5 (
    (pIndexAddr 1 x0 x1).bind fun t6 =>
    (pLoadP t6).bind fun t7 =>
    ((G 170 [A.agg [x2, x3], t7]).bind (fin false)).bind fun t8 =>
    (pIndexAddr 1 x0 x1).bind fun t9 =>
    (pLoadP t9).bind fun t10 =>
    ((G 170 [A.agg [x4, x5], t10]).bind (fin false)).bind fun t11 =>
    (pBin .lss false t8 t11).bind fun t12 =>
    (pBool t12).bind fun t13 =>
    brn t13 (
      some ((vb false, []))) (
      (pBin .add false x1 (vi 1)).bind fun t14 =>
      L159_0 x0 t14 x2 x3 x4 x5)) (
    some ((vb true, []))) :=
  (H_eq Try.func159 rfl).trans (by kernel_rfl)
theorem g160 (a0 a1 : A) : G 160 [a0, a1] =
  (pCells 3 a0).bind fun t0 =>
  (pCells 2 a1).bind fun t1 =>
  ((G 129 [cGet t1 0]).bind (fin false)).bind fun t2 =>
  (pUn .not t2).bind fun t3 =>
  (pBool t3).bind fun t4 =>
  brn t4 (
    ((G 168 [A.agg [cGet t0 0, cGet t0 1, cGet t0 2], cGet t1 0]).bind (fin false)).bind fun t5 =>
    (pIndexAddr 1 (cGet t0 1) t5).bind fun t6 =>
    (pLoadP t6).bind fun t7 =>
    L160_0 t7 (vi 0) (cGet t0 0) (cGet t0 1) (cGet t0 2) (cGet t1 0) (cGet t1 1)) (
    L160_0 (cGet t0 2) (vi 0) (cGet t0 0) (cGet t0 1) (cGet t0 2) (cGet t1 0) (cGet t1 1)) :=
  (G_eq rfl Try.func160 rfl rfl).trans (by kernel_rfl)
theorem l160_0 (x0 x1 x2 x3 x4 x5 x6 : A) : L160_0 x0 x1 x2 x3 x4 x5 x6 =
  (pLenL x6).bind fun t8 =>
  (pBin .lss false x1 t8).bind fun t9 =>
  (pBool t9).bind fun t10 =>
  brn t10 (
    (pIndexAddr 2 x6 x1).bind fun t11 =>
    (pLoadN 2 t11).bind fun t12 =>
    ((G 160 [A.agg [x2, x3, x4], t12]).bind (fin false)).bind fun t13 =>
    (pBin .add false x0 t13).bind fun t14 =>
    (pBin .add false x1 (vi 1)).bind fun t15 =>
    L160_0 t14 t15 x2 x3 x4 x5 x6) (
    some ((x0, []))) :=
  (H_eq Try.func160 rfl).trans (by kernel_rfl)
theorem g161 (a0 a1 a2 : A) : G 161 [a0, a1, a2] =
  (pCells 3 a0).bind fun t0 =>
  (pCells 2 a1).bind fun t1 =>
  (pCells 2 a2).bind fun t2 =>
  ((G 168 [A.agg [cGet t0 0, cGet t0 1, cGet t0 2], cGet t1 0]).bind (fin false)).bind fun t3 =>
  ((G 168 [A.agg [cGet t0 0, cGet t0 1, cGet t0 2], cGet t2 0]).bind (fin false)).bind fun t4 =>
  (pBin .eql false t3 t4).bind fun t5 =>
  (pBool t5).bind fun t6 =>
  brn t6 (
    (pLenL (cGet t1 1)).bind fun t7 =>
    (pLenL (cGet t2 1)).bind fun t8 =>
    (pBin .lss false t7 t8).bind fun t9 =>
    (pBool t9).bind fun t10 =>
    brn t10 (
      some ((vi (-1), []))) (
      (pBin .gtr false t7 t8).bind fun t11 =>
      (pBool t11).bind fun t12 =>
      brn t12 (
        some ((vi 1, []))) (
        some ((vi 0, []))))) (
    (pBin .lss false t3 t4).bind fun t13 =>
    (pBool t13).bind fun t14 =>
    brn t14 (
      some ((vi (-1), []))) (
      (pBin .gtr false t3 t4).bind fun t15 =>
      (pBool t15).bind fun t16 =>
      brn t16 (
        some ((vi 1, []))) (
        some ((vi 0, []))))) :=
  (G_eq rfl Try.func161 rfl rfl).trans (by kernel_rfl)
theorem g162 (a0 a1 : A) : G 162 [a0, a1] =
  (pCells 2 a0).bind fun t0 =>
  (pCells 2 a1).bind fun t1 =>
  L162_0 (vi 0) (cGet t0 0) (cGet t0 1) (cGet t1 0) (cGet t1 1) :=
  (G_eq rfl Try.func162 rfl rfl).trans (by kernel_rfl)
theorem l162_0 (x0 x1 x2 x3 x4 : A) : L162_0 x0 x1 x2 x3 x4 =
  (pLenL x2).bind fun t2 =>
  (pBin .lss false x0 t2).bind fun t3 =>
  (pBool t3).bind fun t4 =>
  brn t4 (
    (pIndexAddr 2 x2 x0).bind fun t5 =>
    (pLoadN 2 t5).bind fun t6 =>
    (pIndexAddr 2 x4 x0).bind fun t7 =>
    (pLoadN 2 t7).bind fun t8 =>
    ((G 103 [t6, t8]).bind (fin false)).bind fun t9 =>
    (pUn .not t9).bind fun t10 =>
    (pBool t10).bind fun t11 =>
    brn t11 (
      some ((x0, []))) (
      (pBin .add false x0 (vi 1)).bind fun t12 =>
      L162_0 t12 x1 x2 x3 x4)) (
    some ((vi (-1), []))) :=
  (H_eq Try.func162 rfl).trans (by kernel_rfl)
theorem c167_0 (x0 x1 : A) (r0 : List (List A)) : C167_0 x0 x1 r0 =
  brn (okA x0) (
    brn (okA x1) (
      (pLenL x1).bind fun t0 =>
      (pBin .eql false t0 (vi 0)).bind fun t1 =>
      (pWant t1 true).bind fun t2 =>
      (pG t1 true ((G 153 [A.agg [x0, x1]]).bind (fin false))).bind fun t3 =>
      (pPick t1 t3 (vb false)).bind fun t4 =>
      (pBool t4).bind fun t5 =>
      brn t5 (
        ((G 113 [A.sl 1 r0, x0]).bind (fin true)).bind fun t6 =>
        (pUn .not t6).bind fun t7 =>
        (pBool t7).bind fun t8 =>
        brn t8 (
          brn (okA x0) (
            brn (pFit ((rLenN r0) + (rLenN [[x0]])) 16) (
              some ((A.top, [A.sl 1 (rApp r0 [[x0]])]))) (
              none)) (
            none)) (
          some ((A.top, [A.sl 1 r0])))) (
        (pLenL x1).bind fun t9 =>
        L167c0_0 x1 t9 (vi 0) r0)) (
      none)) (
    none) :=
  (V_eq rfl Try.func167 rfl rfl).trans (by kernel_rfl)
theorem l167c0_0 (x0 x1 x2 : A) (r0 : List (List A)) : L167c0_0 x0 x1 x2 r0 =
  (pBin .lss false x2 x1).bind fun t10 =>
  (pBool t10).bind fun t11 =>
  brn t11 (
    (pIndexAddr 2 x0 x2).bind fun t12 =>
    (pLoadN 2 t12).bind fun t13 =>
    (pCells 2 t13).bind fun t14 =>
    (C167_0 (cGet t14 0) (cGet t14 1) r0).bind fun t15 =>
    (hR 1 t15 0).bind fun t16 =>
    (pBin .add false x2 (vi 1)).bind fun t17 =>
    L167c0_1 x0 x1 t17 t16) (
    some ((A.top, [A.sl 1 r0]))) :=
  (H_eq Try.func167 rfl).trans (by kernel_rfl)
theorem l167c0_1 (x0 x1 x2 : A) (r0 : List (List A)) : L167c0_1 x0 x1 x2 r0 =
  (pBin .lss false x2 x1).bind fun t18 =>
  (pBool t18).bind fun t19 =>
  brn t19 (
    (pIndexAddr 2 x0 x2).bind fun t20 =>
    (pLoadN 2 t20).bind fun t21 =>
    (pCells 2 t21).bind fun t22 =>
    (C167_0 (cGet t22 0) (cGet t22 1) r0).bind fun t23 =>
    (hR 1 t23 0).bind fun t24 =>
    (pBin .add false x2 (vi 1)).bind fun t25 =>
    L167c0_1 x0 x1 t25 t24) (
    some ((A.top, [A.sl 1 r0]))) :=
  (H_eq Try.func167 rfl).trans (by kernel_rfl)
theorem g168 (a0 a1 : A) : G 168 [a0, a1] =
  (pCells 3 a0).bind fun t0 =>
  L168_0 a1 (vi 0) (cGet t0 0) (cGet t0 1) (cGet t0 2) :=
  (G_eq rfl Try.func168 rfl rfl).trans (by kernel_rfl)
theorem l168_0 (x0 x1 x2 x3 x4 : A) : L168_0 x0 x1 x2 x3 x4 =
  (pLenL x2).bind fun t1 =>
  (pBin .lss false x1 t1).bind fun t2 =>
  (pBool t2).bind fun t3 =>
  brn t3 (
    (pIndexAddr 1 x2 x1).bind fun t4 =>
    (pLoadP t4).bind fun t5 =>
    (pBin .eql false t5 x0).bind fun t6 =>
    (pBool t6).bind fun t7 =>
    brn t7 (
      some ((x1, []))) (
      (pBin .add false x1 (vi 1)).bind fun t8 =>
      L168_0 x0 t8 x2 x3 x4)) (
    some ((vi (-1), []))) :=
  (H_eq Try.func168 rfl).trans (by kernel_rfl)
theorem g169 (a0 : A) : G 169 [a0] =
  (pCells 2 a0).bind fun t0 =>
  ((G 172 [A.sl 1 [], A.agg [cGet t0 0, cGet t0 1]]).bind (fin false)).bind fun t1 =>
  some ((t1, [])) :=
  (G_eq rfl Try.func169 rfl rfl).trans (by kernel_rfl)
theorem g170 (a0 a1 : A) : G 170 [a0, a1] =
  (pCells 2 a0).bind fun t0 =>
  (pBin .eql false (cGet t0 0) a1).bind fun t1 =>
  (pBool t1).bind fun t2 =>
  brn t2 (
    L170_0 a1 (vi 1) (vi 0) (cGet t0 0) (cGet t0 1)) (
    L170_0 a1 (vi 0) (vi 0) (cGet t0 0) (cGet t0 1)) :=
  (G_eq rfl Try.func170 rfl rfl).trans (by kernel_rfl)
theorem l170_0 (x0 x1 x2 x3 x4 : A) : L170_0 x0 x1 x2 x3 x4 =
  (pLenL x4).bind fun t3 =>
  (pBin .lss false x2 t3).bind fun t4 =>
  (pBool t4).bind fun t5 =>
  brn t5 (
    (pIndexAddr 2 x4 x2).bind fun t6 =>
    (pLoadN 2 t6).bind fun t7 =>
    ((G 170 [t7, x0]).bind (fin false)).bind fun t8 =>
    (pBin .add false x1 t8).bind fun t9 =>
    (pBin .add false x2 (vi 1)).bind fun t10 =>
    L170_0 x0 t9 t10 x3 x4) (
    some ((x1, []))) :=
  (H_eq Try.func170 rfl).trans (by kernel_rfl)
theorem g172 (a0 a1 : A) : G 172 [a0, a1] =
  (pCells 2 a1).bind fun t0 =>
  ((G 129 [cGet t0 0]).bind (fin false)).bind fun t1 =>
  (pBool t1).bind fun t2 =>
  brn t2 (
    ((G 131 [a0, cGet t0 0]).bind (fin false)).bind fun t3 =>
    some ((t3, []))) (
    L172_0 a0 (vi 0) (cGet t0 0) (cGet t0 1)) :=
  (G_eq rfl Try.func172 rfl rfl).trans (by kernel_rfl)
theorem l172_0 (x0 x1 x2 x3 : A) : L172_0 x0 x1 x2 x3 =
  (pLenL x3).bind fun t4 =>
  (pBin .lss false x1 t4).bind fun t5 =>
  (pBool t5).bind fun t6 =>
  brn t6 (
    (pIndexAddr 2 x3 x1).bind fun t7 =>
    (pLoadN 2 t7).bind fun t8 =>
    ((G 172 [x0, t8]).bind (fin false)).bind fun t9 =>
    (pBin .add false x1 (vi 1)).bind fun t10 =>
    L172_0 t9 t10 x2 x3) (
    some ((x0, []))) :=
  (H_eq Try.func172 rfl).trans (by kernel_rfl)
end Go.Proofs.Ytencikloakamfaa
