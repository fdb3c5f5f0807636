/- WRITTEN BY A PROGRAM (gen.py): what functions come to, as equations. -/
import Derived.Test.YtjclanocnkankaaK
import Derived.KernelRfl
set_option linter.unusedVariables false
namespace Go.Proofs.Ytjclanocnkankaa
open Go Go.RowKit Go.Proofs.Ytjclanocnkankaa.Abs
noncomputable def L6_0 (x0 x1 x2 : A) : Option Out := MM K (.head 6 [1, 1, 1, 0, 1, 0] [V.d x0, V.d x1, V.top, V.top, V.top, V.d x2, V.top, V.top, V.top, V.top, V.top, V.top, V.top, V.top, V.top, V.top, V.top, V.top, V.top, V.top, V.top, V.top, V.top, V.top, V.top, V.top, V.top] [] none)
noncomputable def C7_0 (x0 : A) : Option Out := MM K (.callv 7 [V.d x0] [])
noncomputable def C8_0 (x0 : A) : Option Out := MM K (.callv 8 [V.d x0] [])
noncomputable def L8c0_0 (x0 x1 : A) (r0 : List (List A)) : Option Out := MM K (.head 8 [1, 1, 0, 1, 0] [V.d x0, V.top, V.top, V.row 0, V.d x1, V.top, V.top, V.top, V.top, V.top, V.top, V.top, V.top, V.top, V.top, V.top, V.top, V.top, V.top, V.top, V.top, V.top, V.top] [.tre false 1 r0] (some []))
noncomputable def C9_0 (x0 : A) : Option Out := MM K (.callv 9 [V.d x0] [])
noncomputable def L9c0_0 (x0 x1 x2 x3 : A) : Option Out := MM K (.head 9 [1, 1, 1, 0, 1, 0] [V.d x0, V.top, V.top, V.top, V.top, V.d x1, V.top, V.top, V.top, V.top, V.top, V.top, V.top, V.top, V.d x2, V.d x3, V.top, V.top, V.top, V.top, V.top, V.top, V.top, V.top, V.top, V.top] [] (some []))
noncomputable def L10_0 (x0 x1 x2 : A) : Option Out := MM K (.head 10 [1, 1, 0, 1, 0] [V.d x0, V.d x1, V.top, V.top, V.top, V.d x2, V.top, V.top, V.top, V.top, V.top, V.top, V.top, V.top, V.top, V.top, V.top, V.top, V.top, V.top, V.top, V.top, V.top, V.top, V.top, V.top] [] none)
noncomputable def L11_0 (x0 x1 x2 : A) : Option Out := MM K (.head 11 [1, 1, 0, 1, 0] [V.d x0, V.d x1, V.top, V.top, V.top, V.d x2, V.top, V.top, V.top, V.top, V.top, V.top, V.top, V.top, V.top, V.top, V.top, V.top, V.top, V.top, V.top, V.top, V.top, V.top, V.top, V.top, V.top] [] none)
noncomputable def C12_0 (x0 : A) (r0 : List (List A)) : Option Out := MM K (.callv 12 [V.row 0, V.d x0] [.tre true 1 r0])
noncomputable def L12c0_0 (x0 x1 : A) (r0 : List (List A)) : Option Out := MM K (.head 12 [1, 0, 1, 0] [V.row 0, V.d x0, V.top, V.top, V.top, V.d x1, V.top, V.top, V.top, V.top, V.top, V.top, V.top, V.top, V.top, V.top, V.top, V.top, V.top] [.tre true 1 r0] (some [0]))
noncomputable def C13_0 (x0 : A) (r0 : List (List A)) : Option Out := MM K (.callv 13 [V.row 0, V.d x0] [.tre true 1 r0])
noncomputable def L13c0_0 (x0 x1 : A) (r0 : List (List A)) : Option Out := MM K (.head 13 [1, 0, 1, 0] [V.row 0, V.d x0, V.top, V.top, V.top, V.d x1, V.top, V.top, V.top, V.top, V.top, V.top, V.top, V.top, V.top, V.top, V.top, V.top, V.top] [.tre true 1 r0] (some [0]))
noncomputable def L14_0 (x0 x1 x2 : A) : Option Out := MM K (.head 14 [1, 0, 1, 0] [V.d x0, V.d x1, V.top, V.top, V.top, V.d x2, V.top, V.top, V.top, V.top, V.top, V.top, V.top, V.top, V.top, V.top, V.top, V.top, V.top, V.top, V.top] [] none)
noncomputable def C15_0 (x0 x1 x2 : A) : Option Out := MM K (.callv 15 [V.d x0, V.d x1, V.d x2] [])
noncomputable def C16_0 (x0 : A) : Option Out := MM K (.callv 16 [V.d x0] [])
noncomputable def L16c0_0 (x0 x1 : A) (r0 : List (List A)) : Option Out := MM K (.head 16 [1, 1, 0, 1, 0] [V.d x0, V.top, V.top, V.row 0, V.d x1, V.top, V.top, V.top, V.top, V.top, V.top, V.top, V.top, V.top, V.top, V.top, V.top, V.top, V.top, V.top, V.top, V.top] [.tre false 1 r0] (some []))
noncomputable def C17_0 (x0 x1 x2 : A) : Option Out := MM K (.callv 17 [V.d x0, V.d x1, V.d x2] [])
noncomputable def L17c0_0 (x0 x1 x2 : A) (r0 r1 : List (List A)) : Option Out := MM K (.head 17 [1, 1, 1, 0, 1, 0] [V.top, V.top, V.d x0, V.top, V.top, V.top, V.top, V.top, V.row 1, V.top, V.top, V.top, V.top, V.top, V.top, V.top, V.top, V.top, V.top, V.top, V.top, V.top, V.top, V.top, V.top, V.top, V.top, V.top, V.top, V.top, V.top, V.top, V.top, V.top, V.top, V.top, V.top, V.top, V.top, V.top, V.top, V.row 0, V.d x1, V.d x2, V.top, V.top, V.top, V.top, V.top, V.top, V.top, V.top, V.top, V.top, V.top, V.top, V.top, V.top, V.top, V.top, V.top, V.top, V.top, V.top, V.top, V.top, V.top, V.top, V.top, V.top, V.top, V.top, V.top] [.row 1 r0, .row 1 r1] (some []))
noncomputable def L17c0_1 (x0 x1 x2 : A) (r0 r1 : List (List A)) : Option Out := MM K (.head 17 [1, 1, 1, 0, 1, 0] [V.top, V.top, V.d x0, V.top, V.top, V.top, V.top, V.top, V.row 0, V.top, V.top, V.top, V.top, V.top, V.top, V.top, V.top, V.top, V.top, V.top, V.top, V.top, V.top, V.top, V.top, V.top, V.top, V.top, V.top, V.top, V.top, V.top, V.top, V.top, V.top, V.top, V.top, V.top, V.top, V.top, V.top, V.row 1, V.d x1, V.d x2, V.top, V.top, V.top, V.top, V.top, V.top, V.top, V.top, V.top, V.top, V.top, V.top, V.top, V.top, V.top, V.top, V.top, V.top, V.top, V.top, V.top, V.top, V.top, V.top, V.top, V.top, V.top, V.top, V.top] [.row 1 r0, .row 1 r1] (some []))
noncomputable def C18_0 (x0 x1 : A) : Option Out := MM K (.callv 18 [V.d x0, V.d x1] [])
noncomputable def L18c0_0 (x0 : A) (r0 : List (List A)) : Option Out := MM K (.head 18 [1, 1, 1, 0] [V.d x0, V.top, V.top, V.top, V.top, V.top, V.top, V.row 0, V.top, V.top, V.top, V.top, V.top, V.top, V.top, V.top, V.top, V.top, V.top, V.top, V.top, V.top, V.top, V.top, V.top, V.top, V.top, V.top, V.top, V.top, V.top, V.top, V.top, V.top, V.top, V.top, V.top, V.top, V.top, V.top, V.top, V.top, V.top, V.top, V.top, V.top, V.top, V.top, V.top, V.top, V.top, V.top, V.top, V.top, V.top] [.row 1 r0] (some []))
noncomputable def L18c0_1 (x0 x1 x2 : A) (r0 : List (List A)) : Option Out := MM K (.head 18 [1, 1, 1, 0, 0, 0, 1, 0, 1, 0] [V.d x0, V.top, V.top, V.top, V.top, V.top, V.top, V.row 0, V.d x1, V.d x2, V.top, V.top, V.top, V.top, V.top, V.top, V.top, V.top, V.top, V.top, V.top, V.top, V.top, V.top, V.top, V.top, V.top, V.top, V.top, V.top, V.top, V.top, V.top, V.top, V.top, V.top, V.top, V.top, V.top, V.top, V.top, V.top, V.top, V.top, V.top, V.top, V.top, V.top, V.top, V.top, V.top, V.top, V.top, V.top, V.top] [.row 1 r0] (some []))
noncomputable def C19_0 (x0 x1 : A) : Option Out := MM K (.callv 19 [V.d x0, V.d x1] [])
noncomputable def L19c0_0 (x0 : A) (r0 : List (List A)) : Option Out := MM K (.head 19 [1, 1, 1, 0] [V.d x0, V.top, V.top, V.top, V.top, V.top, V.top, V.ptr 0 0, V.top, V.top, V.top, V.top, V.top, V.top, V.top, V.top, V.top, V.top, V.top, V.top, V.top, V.top, V.top, V.top, V.top, V.top, V.top, V.top, V.top, V.top, V.top, V.top, V.top, V.top, V.top, V.top, V.top, V.top, V.top, V.top, V.top, V.top, V.top, V.top, V.top] [.box [V.row 1], .row 1 r0] (some []))
noncomputable def L21_0 (x0 x1 : A) : Option Out := MM K (.head 21 [1, 0, 1, 0] [V.d x0, V.top, V.top, V.d x1, V.top, V.top, V.top, V.top, V.top, V.top, V.top, V.top, V.top, V.top, V.top, V.top, V.top, V.top, V.top, V.top, V.top, V.top, V.top] [] none)
noncomputable def C22_0 (x0 x1 x2 x3 : A) : Option Out := MM K (.callv 22 [V.d x0, V.d x1, V.d x2, V.d x3] [])
noncomputable def L23_0 (x0 x1 x2 : A) : Option Out := MM K (.head 23 [1, 1, 0, 1, 0] [V.d x0, V.top, V.top, V.d x1, V.d x2, V.top, V.top, V.top, V.top, V.top, V.top, V.top, V.top, V.top, V.top, V.top, V.top, V.top, V.top, V.top, V.top, V.top, V.top, V.top, V.top, V.top, V.top, V.top, V.top, V.top, V.top, V.top] [] none)
noncomputable def L23_1 (x0 x1 x2 x3 : A) : Option Out := MM K (.head 23 [1, 1, 0, 1, 0, 0, 1, 0, 0, 1, 0] [V.d x0, V.top, V.top, V.d x1, V.d x2, V.d x3, V.top, V.top, V.top, V.top, V.top, V.top, V.top, V.top, V.top, V.top, V.top, V.top, V.top, V.top, V.top, V.top, V.top, V.top, V.top, V.top, V.top, V.top, V.top, V.top, V.top, V.top] [] none)
noncomputable def L25_0 (x0 x1 x2 x3 : A) : Option Out := MM K (.head 25 [1, 1, 0, 1, 0] [V.top, V.top, V.top, V.d x0, V.top, V.top, V.top, V.top, V.d x1, V.d x2, V.d x3, V.top, V.top, V.top, V.top, V.top, V.top, V.top, V.top, V.top, V.top, V.top, V.top, V.top, V.top, V.top, V.top] [] none)
noncomputable def L25_1 (x0 x1 x2 x3 x4 x5 x6 : A) : Option Out := MM K (.head 25 [1, 1, 0, 1, 0, 0, 1, 1, 0, 0, 1, 1, 0] [V.top, V.top, V.top, V.d x0, V.top, V.top, V.top, V.top, V.d x1, V.d x2, V.d x3, V.top, V.top, V.top, V.d x4, V.d x5, V.d x6, V.top, V.top, V.top, V.top, V.top, V.top, V.top, V.top, V.top, V.top] [] none)
noncomputable def C26_0 (x0 x1 : A) : Option Out := MM K (.callv 26 [V.d x0, V.d x1] [])
noncomputable def L26c0_0 (x0 x1 : A) (r0 : List (List A)) : Option Out := MM K (.head 26 [1, 1, 0, 1, 0] [V.d x0, V.top, V.top, V.top, V.top, V.row 0, V.d x1, V.top, V.top, V.top, V.top, V.top, V.top, V.top, V.top, V.top, V.top, V.top, V.top, V.top, V.top, V.top, V.top, V.top, V.top, V.top, V.top, V.top, V.top, V.top, V.top] [.row 1 r0] (some []))
noncomputable def L28_0 (x0 x1 : A) : Option Out := MM K (.head 28 [1, 0, 1, 0] [V.d x0, V.top, V.top, V.d x1, V.top, V.top, V.top, V.top, V.top, V.top, V.top, V.top, V.top, V.top, V.top, V.top, V.top, V.top, V.top, V.top, V.top, V.top, V.top, V.top, V.top, V.top, V.top, V.top, V.top, V.top, V.top, V.top, V.top, V.top, V.top] [] none)
noncomputable def C30_0 (x0 x1 x2 : A) : Option Out := MM K (.callv 30 [V.d x0, V.d x1, V.d x2] [])
noncomputable def L30c0_0 (x0 x1 x2 x3 : A) (r0 : List (List A)) : Option Out := MM K (.head 30 [1, 1, 1, 0, 1, 0] [V.d x0, V.d x1, V.d x2, V.top, V.top, V.top, V.top, V.top, V.row 0, V.d x3, V.top, V.top, V.top, V.top, V.top, V.top, V.top, V.top, V.top, V.top, V.top, V.top, V.top, V.top, V.top, V.top, V.top, V.top, V.top, V.top, V.top, V.top, V.top, V.top, V.top, V.top, V.top, V.top, V.top, V.top, V.top, V.top, V.top, V.top, V.top, V.top, V.top, V.top, V.top, V.top, V.top, V.top, V.top, V.top, V.top, V.top, V.top, V.top, V.top, V.top, V.top, V.top, V.top, V.top, V.top, V.top, V.top, V.top, V.top, V.top, V.top, V.top, V.top, V.top, V.top, V.top, V.top, V.top, V.top] [.row 1 r0] (some []))
noncomputable def L30c0_1 (x0 x1 x2 : A) (r0 : List (List A)) : Option Out := MM K (.head 30 [1, 1, 1, 1, 0, 1, 0] [V.top, V.d x0, V.d x1, V.top, V.top, V.top, V.top, V.top, V.row 0, V.top, V.d x2, V.top, V.top, V.top, V.top, V.top, V.top, V.top, V.top, V.top, V.top, V.top, V.top, V.top, V.top, V.top, V.top, V.top, V.top, V.top, V.top, V.top, V.top, V.top, V.top, V.top, V.top, V.top, V.top, V.top, V.top, V.top, V.top, V.top, V.top, V.top, V.top, V.top, V.top, V.top, V.top, V.top, V.top, V.top, V.top, V.top, V.top, V.top, V.top, V.top, V.top, V.top, V.top, V.top, V.top, V.top, V.top, V.top, V.top, V.top, V.top, V.top, V.top, V.top, V.top, V.top, V.top, V.top, V.top] [.row 1 r0] (some []))
noncomputable def L31_0 (x0 x1 x2 x3 : A) : Option Out := MM K (.head 31 [1, 0, 1, 0] [V.d x0, V.top, V.top, V.top, V.top, V.d x1, V.d x2, V.d x3, V.top, V.top, V.top, V.top, V.top, V.top, V.top, V.top, V.top, V.top, V.top, V.top, V.top, V.top, V.top, V.top, V.top, V.top, V.top, V.top, V.top, V.top, V.top, V.top, V.top, V.top, V.top] [] none)
noncomputable def C34_0 (r0 : List (List A)) : Option Out := MM K (.callv 34 [V.row 0] [.row 1 r0])
noncomputable def L34c0_0 (x0 x1 x2 : A) (r0 : List (List A)) : Option Out := MM K (.head 34 [1, 1, 0, 1, 0] [V.row 0, V.top, V.top, V.d x0, V.top, V.top, V.top, V.top, V.top, V.row 0, V.d x1, V.d x2, V.top, V.top, V.top, V.top, V.top, V.top, V.top, V.top, V.top, V.top, V.top, V.top, V.top, V.top, V.top, V.top, V.top, V.top, V.top, V.top, V.top, V.top, V.top, V.top] [.row 1 r0] (some [0]))
noncomputable def L34c0_1 (x0 x1 : A) (r0 r1 : List (List A)) : Option Out := MM K (.head 34 [1, 1, 1, 1, 0, 1, 0] [V.top, V.top, V.top, V.top, V.top, V.top, V.row 0, V.top, V.top, V.top, V.top, V.top, V.top, V.top, V.top, V.top, V.top, V.top, V.top, V.top, V.top, V.top, V.top, V.top, V.top, V.row 1, V.d x0, V.d x1, V.top, V.top, V.top, V.top, V.top, V.top, V.top, V.top] [.row 1 r0, .row 1 r1] (some [1]))
noncomputable def C35_0 (r0 : List (List A)) : Option Out := MM K (.callv 35 [V.row 0, V.fn 36 []] [.row 1 r0])
noncomputable def C37_0 (x0 : A) : Option Out := MM K (.callv 37 [V.d x0] [])
noncomputable def L38_0 (x0 x1 x2 x3 x4 : A) : Option Out := MM K (.head 38 [1, 1, 0, 1, 0] [V.d x0, V.d x1, V.top, V.top, V.top, V.top, V.d x2, V.d x3, V.d x4, V.top, V.top, V.top, V.top, V.top, V.top, V.top, V.top, V.top, V.top, V.top, V.top, V.top, V.top, V.top, V.top, V.top, V.top, V.top, V.top, V.top, V.top, V.top, V.top, V.top, V.top, V.top, V.top] [] none)
noncomputable def C39_0 (x0 x1 : A) : Option Out := MM K (.callv 39 [V.d x0, V.d x1] [])
noncomputable def L39c0_0 (x0 x1 x2 : A) : Option Out := MM K (.head 39 [1, 1, 0, 0] [V.d x0, V.d x1, V.top, V.top, V.top, V.d x2, V.top, V.top, V.top, V.top, V.top, V.top, V.top, V.top, V.top, V.top, V.top, V.top, V.top, V.top, V.top, V.top, V.top, V.top, V.top, V.top, V.top, V.top, V.top, V.top, V.top, V.top, V.top, V.top] [] (some []))
noncomputable def C40_0 (x0 : A) : Option Out := MM K (.callv 40 [V.d x0] [])
noncomputable def L41_0 (x0 x1 x2 x3 : A) : Option Out := MM K (.head 41 [1, 0, 1, 0] [V.d x0, V.d x1, V.top, V.top, V.top, V.top, V.top, V.d x2, V.d x3, V.top, V.top, V.top, V.top, V.top, V.top, V.top, V.top, V.top, V.top] [] none)
noncomputable def C44_0 (x0 x1 : A) : Option Out := MM K (.callv 44 [V.d x0, V.d x1] [])
noncomputable def L45_0 (x0 x1 x2 : A) : Option Out := MM K (.head 45 [1, 0, 1, 0] [V.d x0, V.d x1, V.top, V.top, V.top, V.d x2, V.top, V.top, V.top, V.top, V.top, V.top, V.top, V.top, V.top, V.top, V.top, V.top, V.top, V.top, V.top, V.top, V.top, V.top, V.top, V.top] [] none)
noncomputable def L52_0 (x0 x1 x2 : A) : Option Out := MM K (.head 52 [1, 0, 1, 0] [V.d x0, V.d x1, V.top, V.top, V.top, V.d x2, V.top, V.top, V.top, V.top, V.top, V.top, V.top, V.top, V.top, V.top, V.top, V.top] [] none)
noncomputable def L54_0 (x0 x1 x2 x3 : A) : Option Out := MM K (.head 54 [1, 0, 1, 0] [V.d x0, V.d x1, V.top, V.top, V.top, V.top, V.top, V.d x2, V.d x3, V.top, V.top, V.top, V.top, V.top, V.top, V.top, V.top, V.top, V.top] [] none)
noncomputable def C55_0 (x0 : A) : Option Out := MM K (.callv 55 [V.nil 1, V.d x0] [])
noncomputable def C56_0 (x0 x1 x2 : A) (r0 : List (List A)) : Option Out := MM K (.callv 56 [V.row 0, V.d x0, V.d x1, V.d x2, V.fn 36 []] [.row 1 r0])
noncomputable def L56c0_0 (x0 x1 x2 x3 x4 : A) (r0 : List (List A)) : Option Out := MM K (.head 56 [1, 1, 0] [V.row 0, V.d x0, V.d x1, V.d x2, V.fn 36 [], V.top, V.top, V.top, V.top, V.top, V.d x3, V.d x4, V.top, V.top, V.top, V.top, V.top, V.top, V.top, V.top, V.top, V.top, V.top, V.top, V.top, V.top, V.top, V.top, V.top, V.top, V.top, V.top, V.top, V.top, V.top, V.top, V.top, V.top, V.top, V.top, V.top, V.top, V.top, V.top, V.top, V.top, V.top, V.top, V.top, V.top, V.top, V.top, V.top, V.top, V.top, V.top, V.top, V.top, V.top, V.top, V.top, V.top, V.top, V.top, V.top, V.top, V.top, V.top, V.top, V.top, V.top, V.top, V.top, V.top, V.top, V.top, V.top, V.top, V.top, V.top, V.top, V.top, V.top, V.top, V.top, V.top, V.top, V.top, V.top, V.top, V.top, V.top, V.top, V.top, V.top, V.top, V.top, V.top, V.top, V.top, V.top, V.top, V.top, V.top, V.top, V.top, V.top, V.top, V.top, V.top, V.top, V.top, V.top, V.top, V.top, V.top, V.top, V.top, V.top, V.top, V.top, V.top, V.top, V.top, V.top, V.top, V.top, V.top, V.top, V.top, V.top, V.top, V.top, V.top, V.top, V.top, V.top, V.top, V.top, V.top, V.top, V.top, V.top, V.top, V.top, V.top, V.top, V.top] [.row 1 r0] (some [0]))
noncomputable def C61_0 (x0 : A) (r0 : List (List A)) : Option Out := MM K (.callv 61 [V.row 0, V.fn 62 [V.ptr 1 0]] [.row 1 r0, .box [V.d x0]])
noncomputable def L61c0_0 (x0 x1 x2 : A) (r0 : List (List A)) : Option Out := MM K (.head 61 [1, 1, 1, 0, 1, 0] [V.row 0, V.fn 62 [V.ptr 1 0], V.top, V.top, V.top, V.d x0, V.d x1, V.top, V.top, V.top, V.top, V.top, V.top, V.top, V.top, V.top, V.top, V.top, V.top, V.top, V.top, V.top, V.top, V.top, V.top, V.top, V.top, V.top, V.top, V.top, V.top, V.top, V.top, V.top, V.top, V.top, V.top, V.top, V.top, V.top, V.top, V.top] [.row 1 r0, .box [V.d x2]] (some [0, 1]))
noncomputable def C63_0 (x0 x1 : A) (r0 : List (List A)) : Option Out := MM K (.callv 63 [V.row 0, V.d x0, V.d x1, V.fn 36 []] [.row 1 r0])
noncomputable def L63c0_0 (x0 x1 x2 : A) (r0 : List (List A)) : Option Out := MM K (.head 63 [1, 0] [V.row 0, V.d x0, V.d x1, V.fn 36 [], V.top, V.top, V.top, V.top, V.d x2, V.top, V.top, V.top, V.top, V.top, V.top, V.top, V.top, V.top, V.top, V.top, V.top, V.top, V.top, V.top, V.top, V.top, V.top, V.top, V.top, V.top, V.top, V.top, V.top, V.top, V.top, V.top, V.top, V.top, V.top, V.top, V.top, V.top, V.top, V.top, V.top, V.top, V.top, V.top, V.top, V.top, V.top, V.top, V.top] [.row 1 r0] (some [0]))
noncomputable def L63c0_1 (x0 x1 x2 x3 : A) (r0 : List (List A)) : Option Out := MM K (.head 63 [1, 0, 0, 1, 0, 0, 1, 0] [V.row 0, V.d x0, V.d x1, V.fn 36 [], V.top, V.top, V.top, V.top, V.d x2, V.d x3, V.top, V.top, V.top, V.top, V.top, V.top, V.top, V.top, V.top, V.top, V.top, V.top, V.top, V.top, V.top, V.top, V.top, V.top, V.top, V.top, V.top, V.top, V.top, V.top, V.top, V.top, V.top, V.top, V.top, V.top, V.top, V.top, V.top, V.top, V.top, V.top, V.top, V.top, V.top, V.top, V.top, V.top, V.top] [.row 1 r0] (some [0]))
noncomputable def L74_0 (x0 x1 x2 x3 : A) : Option Out := MM K (.head 74 [1, 0, 1, 0] [V.d x0, V.d x1, V.top, V.top, V.top, V.top, V.top, V.d x2, V.d x3, V.top, V.top, V.top, V.top, V.top, V.top, V.top, V.top, V.top, V.top] [] none)
theorem g3 (a0 : A) : G 3 [a0] =
  ((G 6 [a0, vi 1048576]).bind (fin false)).bind fun t0 =>
  (pBin .lss false t0 (vi 0)).bind fun t1 =>
  (pBool t1).bind fun t2 =>
  brn t2 (
    some ((vb true, []))) (
    (C8_0 a0).bind fun t3 =>
    (hR 65 t3 0).bind fun t4 =>
    (C7_0 (A.sl 1 t4)).bind fun t5 =>
    (hD t5 0).bind fun t6 =>
    (hD t5 1).bind fun t7 =>
    (hR 1 t5 2).bind fun t8 =>
    brn (flatA t6) (
      brn (flatA t7) (
        brn (flatR t8) (
          (C8_0 a0).bind fun t9 =>
          (hR 65 t9 0).bind fun t10 =>
          (C9_0 (A.sl 1 t10)).bind fun t11 =>
          (hD t11 0).bind fun t12 =>
          (hD t11 1).bind fun t13 =>
          (hR 1 t11 2).bind fun t14 =>
          brn (flatA t12) (
            brn (flatA t13) (
              brn (flatR t14) (
                ((G 10 [A.sl 1 t14, A.sl 1 t8]).bind (fin true)).bind fun t15 =>
                (pUn .not t15).bind fun t16 =>
                (pG t16 false (some t12)).bind fun t17 =>
                (pG t16 false (some t6)).bind fun t18 =>
                (pG t16 false (pBin .neq true t17 t18)).bind fun t19 =>
                (pPick t16 (vb true) t19).bind fun t20 =>
                (pG t20 false (some t13)).bind fun t21 =>
                (pG t20 false (some t7)).bind fun t22 =>
                (pG t20 false (pBin .neq true t21 t22)).bind fun t23 =>
                (pPick t20 (vb true) t23).bind fun t24 =>
                (pBool t24).bind fun t25 =>
                brn t25 (
                  some ((vb false, []))) (
                  (C8_0 a0).bind fun t26 =>
                  (hR 65 t26 0).bind fun t27 =>
                  ((G 11 [A.sl 1 t10, A.sl 1 t27]).bind (fin true)).bind fun t28 =>
                  (pUn .not t28).bind fun t29 =>
                  (pBool t29).bind fun t30 =>
                  brn t30 (
                    some ((vb false, []))) (
                    (C12_0 (vi 1) t10).bind fun t31 =>
                    (hD t31 0).bind fun t32 =>
                    (hR 65 t31 1).bind fun t33 =>
                    (pBin .lss false t32 (vi 0)).bind fun t34 =>
                    (pWant t34 false).bind fun t35 =>
                    (pWant t34 false).bind fun t36 =>
                    (pG t34 false ((G 10 [A.sl 1 t14, A.sl 1 t8]).bind (fin true))).bind fun t37 =>
                    (pG t34 false (pUn .not t37)).bind fun t38 =>
                    (pPick t34 (vb true) t38).bind fun t39 =>
                    (pG t39 false (some t12)).bind fun t40 =>
                    (pG t39 false (some t6)).bind fun t41 =>
                    (pG t39 false (pBin .neq true t40 t41)).bind fun t42 =>
                    (pPick t39 (vb true) t42).bind fun t43 =>
                    (pG t43 false (some t13)).bind fun t44 =>
                    (pG t43 false (some t7)).bind fun t45 =>
                    (pG t43 false (pBin .neq true t44 t45)).bind fun t46 =>
                    (pPick t43 (vb true) t46).bind fun t47 =>
                    (pBool t47).bind fun t48 =>
                    brn t48 (
                      some ((vb false, []))) (
                      brn (valR t14) (
                        (C13_0 (vi 1) t14).bind fun t49 =>
                        (hD t49 0).bind fun t50 =>
                        (hR 65 t49 1).bind fun t51 =>
                        ((G 14 [A.sl 1 t51, vi 1]).bind (fin true)).bind fun t52 =>
                        (pBin .lss false t52 (vi 0)).bind fun t53 =>
                        (pBool t53).bind fun t54 =>
                        brn t54 (
                          some ((vb false, []))) (
                          (pBin .neq false t52 t50).bind fun t55 =>
                          (pBool t55).bind fun t56 =>
                          brn t56 (
                            some ((vb false, []))) (
                            (C8_0 a0).bind fun t57 =>
                            (hR 65 t57 0).bind fun t58 =>
                            (C9_0 (A.sl 1 t58)).bind fun t59 =>
                            (hD t59 0).bind fun t60 =>
                            (hD t59 1).bind fun t61 =>
                            (hR 1 t59 2).bind fun t62 =>
                            brn (flatA t60) (
                              brn (flatA t61) (
                                brn (flatR t62) (
                                  ((G 10 [A.sl 1 t62, A.sl 1 t8]).bind (fin true)).bind fun t63 =>
                                  (pUn .not t63).bind fun t64 =>
                                  (pG t64 false (some t60)).bind fun t65 =>
                                  (pG t64 false (some t6)).bind fun t66 =>
                                  (pG t64 false (pBin .neq true t65 t66)).bind fun t67 =>
                                  (pPick t64 (vb true) t67).bind fun t68 =>
                                  (pG t68 false (some t61)).bind fun t69 =>
                                  (pG t68 false (some t7)).bind fun t70 =>
                                  (pG t68 false (pBin .neq true t69 t70)).bind fun t71 =>
                                  (pPick t68 (vb true) t71).bind fun t72 =>
                                  (pBool t72).bind fun t73 =>
                                  brn t73 (
                                    some ((vb false, []))) (
                                    ((G 14 [A.sl 1 t51, vi 1]).bind (fin true)).bind fun t74 =>
                                    (pBin .lss false t74 (vi 0)).bind fun t75 =>
                                    (pBool t75).bind fun t76 =>
                                    brn t76 (
                                      some ((vb false, []))) (
                                      (pBin .neq false t74 t50).bind fun t77 =>
                                      (pBool t77).bind fun t78 =>
                                      brn t78 (
                                        some ((vb false, []))) (
                                        some ((vb true, [])))))) (
                                  none)) (
                                none)) (
                              none)))) (
                        none))))) (
                none)) (
              none)) (
            none)) (
          none)) (
        none)) (
      none)) :=
  (G_eq rfl Try.func3 rfl rfl).trans (by kernel_rfl)
theorem g4 (a0 a1 a2 : A) : G 4 [a0, a1, a2] =
  (pLenL a0).bind fun t0 =>
  (pBin .gtr false t0 (vi 1048576)).bind fun t1 =>
  (pBool t1).bind fun t2 =>
  brn t2 (
    some ((vb true, []))) (
    (pLenL a1).bind fun t3 =>
    (pBin .gtr false t3 (vi 1048576)).bind fun t4 =>
    (pBool t4).bind fun t5 =>
    brn t5 (
      some ((vb true, []))) (
      (C16_0 a0).bind fun t6 =>
      (hR 65 t6 0).bind fun t7 =>
      (C16_0 a1).bind fun t8 =>
      (hR 65 t8 0).bind fun t9 =>
      (C15_0 (A.sl 1 t7) (A.sl 1 t9) a2).bind fun t10 =>
      (hD t10 0).bind fun t11 =>
      (hR 1 t10 1).bind fun t12 =>
      brn (flatA t11) (
        brn (flatR t12) (
          (C16_0 a0).bind fun t13 =>
          (hR 65 t13 0).bind fun t14 =>
          (C16_0 a1).bind fun t15 =>
          (hR 65 t15 0).bind fun t16 =>
          (C17_0 (A.sl 1 t14) (A.sl 1 t16) a2).bind fun t17 =>
          (hD t17 0).bind fun t18 =>
          (hR 1 t17 1).bind fun t19 =>
          brn (flatA t18) (
            brn (flatR t19) (
              ((G 10 [A.sl 1 t19, A.sl 1 t12]).bind (fin true)).bind fun t20 =>
              (pUn .not t20).bind fun t21 =>
              (pG t21 false (some t18)).bind fun t22 =>
              (pG t21 false (some t11)).bind fun t23 =>
              (pG t21 false (pBin .neq true t22 t23)).bind fun t24 =>
              (pPick t21 (vb true) t24).bind fun t25 =>
              (pBool t25).bind fun t26 =>
              brn t26 (
                some ((vb false, []))) (
                (C16_0 a0).bind fun t27 =>
                (hR 65 t27 0).bind fun t28 =>
                ((G 10 [A.sl 1 t14, A.sl 1 t28]).bind (fin true)).bind fun t29 =>
                (pUn .not t29).bind fun t30 =>
                (pBool t30).bind fun t31 =>
                brn t31 (
                  some ((vb false, []))) (
                  (C16_0 a1).bind fun t32 =>
                  (hR 65 t32 0).bind fun t33 =>
                  ((G 10 [A.sl 1 t16, A.sl 1 t33]).bind (fin true)).bind fun t34 =>
                  (pUn .not t34).bind fun t35 =>
                  (pBool t35).bind fun t36 =>
                  brn t36 (
                    some ((vb false, []))) (
                    (C13_0 (vi 1) t14).bind fun t37 =>
                    (hD t37 0).bind fun t38 =>
                    (hR 65 t37 1).bind fun t39 =>
                    (C13_0 t38 t16).bind fun t40 =>
                    (hD t40 0).bind fun t41 =>
                    (hR 65 t40 1).bind fun t42 =>
                    (pBin .lss false t41 (vi 0)).bind fun t43 =>
                    (pWant t43 false).bind fun t44 =>
                    (pWant t43 false).bind fun t45 =>
                    (pG t43 false ((G 10 [A.sl 1 t19, A.sl 1 t12]).bind (fin true))).bind fun t46 =>
                    (pG t43 false (pUn .not t46)).bind fun t47 =>
                    (pPick t43 (vb true) t47).bind fun t48 =>
                    (pG t48 false (some t18)).bind fun t49 =>
                    (pG t48 false (some t11)).bind fun t50 =>
                    (pG t48 false (pBin .neq true t49 t50)).bind fun t51 =>
                    (pPick t48 (vb true) t51).bind fun t52 =>
                    (pBool t52).bind fun t53 =>
                    brn t53 (
                      some ((vb false, []))) (
                      brn (valR t19) (
                        (C13_0 (vi 1) t19).bind fun t54 =>
                        (hD t54 0).bind fun t55 =>
                        (hR 65 t54 1).bind fun t56 =>
                        ((G 14 [A.sl 1 t56, vi 1]).bind (fin true)).bind fun t57 =>
                        (pBin .lss false t57 (vi 0)).bind fun t58 =>
                        (pBool t58).bind fun t59 =>
                        brn t59 (
                          some ((vb false, []))) (
                          (pBin .neq false t57 t55).bind fun t60 =>
                          (pBool t60).bind fun t61 =>
                          brn t61 (
                            some ((vb false, []))) (
                            (C16_0 a0).bind fun t62 =>
                            (hR 65 t62 0).bind fun t63 =>
                            (C16_0 a1).bind fun t64 =>
                            (hR 65 t64 0).bind fun t65 =>
                            (C17_0 (A.sl 1 t63) (A.sl 1 t65) a2).bind fun t66 =>
                            (hD t66 0).bind fun t67 =>
                            (hR 1 t66 1).bind fun t68 =>
                            brn (flatA t67) (
                              brn (flatR t68) (
                                ((G 10 [A.sl 1 t68, A.sl 1 t12]).bind (fin true)).bind fun t69 =>
                                (pUn .not t69).bind fun t70 =>
                                (pG t70 false (some t67)).bind fun t71 =>
                                (pG t70 false (some t11)).bind fun t72 =>
                                (pG t70 false (pBin .neq true t71 t72)).bind fun t73 =>
                                (pPick t70 (vb true) t73).bind fun t74 =>
                                (pBool t74).bind fun t75 =>
                                brn t75 (
                                  some ((vb false, []))) (
                                  ((G 14 [A.sl 1 t56, vi 1]).bind (fin true)).bind fun t76 =>
                                  (pBin .lss false t76 (vi 0)).bind fun t77 =>
                                  (pBool t77).bind fun t78 =>
                                  brn t78 (
                                    some ((vb false, []))) (
                                    (pBin .neq false t76 t55).bind fun t79 =>
                                    (pBool t79).bind fun t80 =>
                                    brn t80 (
                                      some ((vb false, []))) (
                                      some ((vb true, [])))))) (
                                none)) (
                              none)))) (
                        none)))))) (
              none)) (
            none)) (
          none)) (
        none))) :=
  (G_eq rfl Try.func4 rfl rfl).trans (by kernel_rfl)
theorem g5 (a0 a1 : A) : G 5 [a0, a1] =
  (pLenL a1).bind fun t0 =>
  (pBin .gtr false t0 (vi 1048576)).bind fun t1 =>
  (pBool t1).bind fun t2 =>
  brn t2 (
    some ((vb true, []))) (
    ((G 6 [a0, vi 1048576]).bind (fin false)).bind fun t3 =>
    (pBin .lss false t3 (vi 0)).bind fun t4 =>
    (pBool t4).bind fun t5 =>
    brn t5 (
      some ((vb true, []))) (
      (C8_0 a0).bind fun t6 =>
      (hR 65 t6 0).bind fun t7 =>
      (C16_0 a1).bind fun t8 =>
      (hR 65 t8 0).bind fun t9 =>
      (C18_0 (A.sl 1 t7) (A.sl 1 t9)).bind fun t10 =>
      (hD t10 0).bind fun t11 =>
      (hD t10 1).bind fun t12 =>
      (hR 1 t10 2).bind fun t13 =>
      brn (flatA t11) (
        brn (flatA t12) (
          brn (flatR t13) (
            (C8_0 a0).bind fun t14 =>
            (hR 65 t14 0).bind fun t15 =>
            (C16_0 a1).bind fun t16 =>
            (hR 65 t16 0).bind fun t17 =>
            (C19_0 (A.sl 1 t15) (A.sl 1 t17)).bind fun t18 =>
            (hD t18 0).bind fun t19 =>
            (hD t18 1).bind fun t20 =>
            (hR 1 t18 2).bind fun t21 =>
            brn (flatA t19) (
              brn (flatA t20) (
                brn (flatR t21) (
                  ((G 10 [A.sl 1 t21, A.sl 1 t13]).bind (fin true)).bind fun t22 =>
                  (pUn .not t22).bind fun t23 =>
                  (pG t23 false (some t19)).bind fun t24 =>
                  (pG t23 false (some t11)).bind fun t25 =>
                  (pG t23 false (pBin .neq false t24 t25)).bind fun t26 =>
                  (pPick t23 (vb true) t26).bind fun t27 =>
                  (pG t27 false (some t20)).bind fun t28 =>
                  (pG t27 false (some t12)).bind fun t29 =>
                  (pG t27 false (pBin .neq true t28 t29)).bind fun t30 =>
                  (pPick t27 (vb true) t30).bind fun t31 =>
                  (pBool t31).bind fun t32 =>
                  brn t32 (
                    some ((vb false, []))) (
                    (C8_0 a0).bind fun t33 =>
                    (hR 65 t33 0).bind fun t34 =>
                    ((G 11 [A.sl 1 t15, A.sl 1 t34]).bind (fin true)).bind fun t35 =>
                    (pUn .not t35).bind fun t36 =>
                    (pBool t36).bind fun t37 =>
                    brn t37 (
                      some ((vb false, []))) (
                      (C16_0 a1).bind fun t38 =>
                      (hR 65 t38 0).bind fun t39 =>
                      ((G 10 [A.sl 1 t17, A.sl 1 t39]).bind (fin true)).bind fun t40 =>
                      (pUn .not t40).bind fun t41 =>
                      (pBool t41).bind fun t42 =>
                      brn t42 (
                        some ((vb false, []))) (
                        (C12_0 (vi 1) t15).bind fun t43 =>
                        (hD t43 0).bind fun t44 =>
                        (hR 65 t43 1).bind fun t45 =>
                        (C13_0 t44 t17).bind fun t46 =>
                        (hD t46 0).bind fun t47 =>
                        (hR 65 t46 1).bind fun t48 =>
                        (pBin .lss false t47 (vi 0)).bind fun t49 =>
                        (pWant t49 false).bind fun t50 =>
                        (pWant t49 false).bind fun t51 =>
                        (pG t49 false ((G 10 [A.sl 1 t21, A.sl 1 t13]).bind (fin true))).bind fun t52 =>
                        (pG t49 false (pUn .not t52)).bind fun t53 =>
                        (pPick t49 (vb true) t53).bind fun t54 =>
                        (pG t54 false (some t19)).bind fun t55 =>
                        (pG t54 false (some t11)).bind fun t56 =>
                        (pG t54 false (pBin .neq false t55 t56)).bind fun t57 =>
                        (pPick t54 (vb true) t57).bind fun t58 =>
                        (pG t58 false (some t20)).bind fun t59 =>
                        (pG t58 false (some t12)).bind fun t60 =>
                        (pG t58 false (pBin .neq true t59 t60)).bind fun t61 =>
                        (pPick t58 (vb true) t61).bind fun t62 =>
                        (pBool t62).bind fun t63 =>
                        brn t63 (
                          some ((vb false, []))) (
                          brn (valR t21) (
                            (C13_0 (vi 1) t21).bind fun t64 =>
                            (hD t64 0).bind fun t65 =>
                            (hR 65 t64 1).bind fun t66 =>
                            ((G 14 [A.sl 1 t66, vi 1]).bind (fin true)).bind fun t67 =>
                            (pBin .lss false t67 (vi 0)).bind fun t68 =>
                            (pBool t68).bind fun t69 =>
                            brn t69 (
                              some ((vb false, []))) (
                              (pBin .neq false t67 t65).bind fun t70 =>
                              (pBool t70).bind fun t71 =>
                              brn t71 (
                                some ((vb false, []))) (
                                (C8_0 a0).bind fun t72 =>
                                (hR 65 t72 0).bind fun t73 =>
                                (C16_0 a1).bind fun t74 =>
                                (hR 65 t74 0).bind fun t75 =>
                                (C19_0 (A.sl 1 t73) (A.sl 1 t75)).bind fun t76 =>
                                (hD t76 0).bind fun t77 =>
                                (hD t76 1).bind fun t78 =>
                                (hR 1 t76 2).bind fun t79 =>
                                brn (flatA t77) (
                                  brn (flatA t78) (
                                    brn (flatR t79) (
                                      ((G 10 [A.sl 1 t79, A.sl 1 t13]).bind (fin true)).bind fun t80 =>
                                      (pUn .not t80).bind fun t81 =>
                                      (pG t81 false (some t77)).bind fun t82 =>
                                      (pG t81 false (some t11)).bind fun t83 =>
                                      (pG t81 false (pBin .neq false t82 t83)).bind fun t84 =>
                                      (pPick t81 (vb true) t84).bind fun t85 =>
                                      (pG t85 false (some t78)).bind fun t86 =>
                                      (pG t85 false (some t12)).bind fun t87 =>
                                      (pG t85 false (pBin .neq true t86 t87)).bind fun t88 =>
                                      (pPick t85 (vb true) t88).bind fun t89 =>
                                      (pBool t89).bind fun t90 =>
                                      brn t90 (
                                        some ((vb false, []))) (
                                        ((G 14 [A.sl 1 t66, vi 1]).bind (fin true)).bind fun t91 =>
                                        (pBin .lss false t91 (vi 0)).bind fun t92 =>
                                        (pBool t92).bind fun t93 =>
                                        brn t93 (
                                          some ((vb false, []))) (
                                          (pBin .neq false t91 t65).bind fun t94 =>
                                          (pBool t94).bind fun t95 =>
                                          brn t95 (
                                            some ((vb false, []))) (
                                            some ((vb true, [])))))) (
                                      none)) (
                                    none)) (
                                  none)))) (
                            none)))))) (
                  none)) (
                none)) (
              none)) (
            none)) (
          none)) (
        none))) :=
  (G_eq rfl Try.func5 rfl rfl).trans (by kernel_rfl)
theorem g6 (a0 a1 : A) : G 6 [a0, a1] =
  (pLenL a0).bind fun t0 =>
  (pBin .sub false a1 t0).bind fun t1 =>
  (pBin .lss false t1 (vi 0)).bind fun t2 =>
  (pBool t2).bind fun t3 =>
  brn t3 (
    some ((vi (-1), []))) (
    L6_0 a0 t1 (vi 0)) :=
  (G_eq rfl Try.func6 rfl rfl).trans (by kernel_rfl)
theorem l6_0 (x0 x1 x2 : A) : L6_0 x0 x1 x2 =
  (pLenL x0).bind fun t4 =>
  (pBin .lss false x2 t4).bind fun t5 =>
  (pBool t5).bind fun t6 =>
  brn t6 (
    (pIndexAddr 1 x0 x2).bind fun t7 =>
    (pLoadP t7).bind fun t8 =>
    ((G 20 [t8, x1]).bind (fin false)).bind fun t9 =>
    (pBin .lss false t9 (vi 0)).bind fun t10 =>
    (pBool t10).bind fun t11 =>
    brn t11 (
      some ((vi (-1), []))) (
      (pBin .add false x2 (vi 1)).bind fun t12 =>
      L6_0 x0 t9 t12)) (
    some ((x1, []))) :=
  (H_eq Try.func6 rfl).trans (by kernel_rfl)
theorem c7_0 (x0 : A) : C7_0 x0 =
  ((G 21 [x0]).bind (fin false)).bind fun t0 =>
  (pUn .not t0).bind fun t1 =>
  (pBool t1).bind fun t2 =>
  brn t2 (
    some ((A.top, [vb false, vb false, A.sl 1 []]))) (
    ((G 23 [x0]).bind (fin false)).bind fun t3 =>
    (C22_0 x0 (A.sl 1 []) (vi 1) t3).bind fun t4 =>
    (hD t4 0).bind fun t5 =>
    (hR 1 t4 1).bind fun t6 =>
    brn (flatA t5) (
      brn (flatR t6) (
        some ((A.top, [t5, vb true, A.sl 1 t6]))) (
        none)) (
      none)) :=
  (V_eq rfl Try.func7 rfl rfl).trans (by kernel_rfl)
theorem c8_0 (x0 : A) : C8_0 x0 =
  (pLenL x0).bind fun t0 =>
  (pMake 24 t0 t0).bind fun t1 =>
  L8c0_0 x0 (vi 0) (rRep t1 [A.sl 1 []]) :=
  (V_eq rfl Try.func8 rfl rfl).trans (by kernel_rfl)
theorem l8c0_0 (x0 x1 : A) (r0 : List (List A)) : L8c0_0 x0 x1 r0 =
  (pLenL x0).bind fun t2 =>
  (pBin .lss false x1 t2).bind fun t3 =>
  (pBool t3).bind fun t4 =>
  brn t4 (
    (pIndexAddr 1 x0 x1).bind fun t5 =>
    (pLoadP t5).bind fun t6 =>
    (C16_0 t6).bind fun t7 =>
    (hR 65 t7 0).bind fun t8 =>
    (pIx (rLenN r0) x1).bind fun t9 =>
    (rGet r0 t9).bind fun t10 =>
    (pBin .add false x1 (vi 1)).bind fun t11 =>
    L8c0_0 x0 t11 (rSet r0 t9 (cOver t10 0 [A.sl 1 t8]))) (
    some ((A.top, [A.sl 65 r0]))) :=
  (H_eq Try.func8 rfl).trans (by kernel_rfl)
theorem c9_0 (x0 : A) : C9_0 x0 =
  ((G 24 [x0]).bind (fin false)).bind fun t0 =>
  (pUn .not t0).bind fun t1 =>
  (pBool t1).bind fun t2 =>
  brn t2 (
    some ((A.top, [vb false, vb false, A.sl 1 []]))) (
    ((G 25 [x0]).bind (fin false)).bind fun t3 =>
    (pBin .shl false (vi 1) t3).bind fun t4 =>
    L9c0_0 x0 t3 t4 (vi 0)) :=
  (V_eq rfl Try.func9 rfl rfl).trans (by kernel_rfl)
theorem l9c0_0 (x0 x1 x2 x3 : A) : L9c0_0 x0 x1 x2 x3 =
  (pBin .lss false x3 x2).bind fun t5 =>
  (pBool t5).bind fun t6 =>
  brn t6 (
    (C26_0 x3 x1).bind fun t7 =>
    (hR 1 t7 0).bind fun t8 =>
    ((G 27 [x0, A.sl 1 t8]).bind (fin true)).bind fun t9 =>
    (pBool t9).bind fun t10 =>
    brn t10 (
      some ((A.top, [vb true, vb true, A.sl 1 t8]))) (
      (pBin .add false x3 (vi 1)).bind fun t11 =>
      L9c0_0 x0 x1 x2 t11)) (
    some ((A.top, [vb false, vb true, A.sl 1 []]))) :=
  (H_eq Try.func9 rfl).trans (by kernel_rfl)
theorem g10 (a0 a1 : A) : G 10 [a0, a1] =
  (pLenL a0).bind fun t0 =>
  (pLenL a1).bind fun t1 =>
  (pBin .neq false t0 t1).bind fun t2 =>
  (pBool t2).bind fun t3 =>
  brn t3 (
    some ((vb false, []))) (
    L10_0 a0 a1 (vi 0)) :=
  (G_eq rfl Try.func10 rfl rfl).trans (by kernel_rfl)
theorem l10_0 (x0 x1 x2 : A) : L10_0 x0 x1 x2 =
  (pLenL x0).bind fun t4 =>
  (pBin .lss false x2 t4).bind fun t5 =>
  (pBool t5).bind fun t6 =>
  brn t6 (
    (pIndexAddr 1 x0 x2).bind fun t7 =>
    (pLoadP t7).bind fun t8 =>
    (pIndexAddr 1 x1 x2).bind fun t9 =>
    (pLoadP t9).bind fun t10 =>
    (pBin .neq false t8 t10).bind fun t11 =>
    (pBool t11).bind fun t12 =>
    brn t12 (
      some ((vb false, []))) (
      (pBin .add false x2 (vi 1)).bind fun t13 =>
      L10_0 x0 x1 t13)) (
    some ((vb true, []))) :=
  (H_eq Try.func10 rfl).trans (by kernel_rfl)
theorem g11 (a0 a1 : A) : G 11 [a0, a1] =
  (pLenL a0).bind fun t0 =>
  (pLenL a1).bind fun t1 =>
  (pBin .neq false t0 t1).bind fun t2 =>
  (pBool t2).bind fun t3 =>
  brn t3 (
    some ((vb false, []))) (
    L11_0 a0 a1 (vi 0)) :=
  (G_eq rfl Try.func11 rfl rfl).trans (by kernel_rfl)
theorem l11_0 (x0 x1 x2 : A) : L11_0 x0 x1 x2 =
  (pLenL x0).bind fun t4 =>
  (pBin .lss false x2 t4).bind fun t5 =>
  (pBool t5).bind fun t6 =>
  brn t6 (
    (pIndexAddr 1 x0 x2).bind fun t7 =>
    (pLoadP t7).bind fun t8 =>
    (pIndexAddr 1 x1 x2).bind fun t9 =>
    (pLoadP t9).bind fun t10 =>
    ((G 10 [t8, t10]).bind (fin false)).bind fun t11 =>
    (pUn .not t11).bind fun t12 =>
    (pBool t12).bind fun t13 =>
    brn t13 (
      some ((vb false, []))) (
      (pBin .add false x2 (vi 1)).bind fun t14 =>
      L11_0 x0 x1 t14)) (
    some ((vb true, []))) :=
  (H_eq Try.func11 rfl).trans (by kernel_rfl)
theorem c12_0 (x0 : A) (r0 : List (List A)) : C12_0 x0 r0 =
  L12c0_0 x0 (vi 0) r0 :=
  (V_eq rfl Try.func12 rfl rfl).trans (by kernel_rfl)
theorem l12c0_0 (x0 x1 : A) (r0 : List (List A)) : L12c0_0 x0 x1 r0 =
  (pBin .lss false x1 (rLen r0)).bind fun t0 =>
  (pBool t0).bind fun t1 =>
  brn t1 (
    (pIx (rLenN r0) x1).bind fun t2 =>
    (rGet r0 t2).bind fun t3 =>
    brn (isSlA (cGet t3 0)) (
      (rGet r0 t2).bind fun t4 =>
      (pRows 1 (cGet t4 0)).bind fun t5 =>
      (C13_0 x0 t5).bind fun t6 =>
      (hD t6 0).bind fun t7 =>
      (hR 65 t6 1).bind fun t8 =>
      (pBin .add false x1 (vi 1)).bind fun t9 =>
      L12c0_0 t7 t9 (rSet r0 t2 (cOver t4 0 [A.sl 1 t8]))) (
      none)) (
    some ((A.top, [x0, A.sl 65 r0]))) :=
  (H_eq Try.func12 rfl).trans (by kernel_rfl)
theorem c13_0 (x0 : A) (r0 : List (List A)) : C13_0 x0 r0 =
  L13c0_0 x0 (vi 0) r0 :=
  (V_eq rfl Try.func13 rfl rfl).trans (by kernel_rfl)
theorem l13c0_0 (x0 x1 : A) (r0 : List (List A)) : L13c0_0 x0 x1 r0 =
  (pBin .lss false x1 (rLen r0)).bind fun t0 =>
  (pBool t0).bind fun t1 =>
  brn t1 (
    (pIx (rLenN r0) x1).bind fun t2 =>
    brn (okA x0) (
      brn (isVal x0) (
        (rGet r0 t2).bind fun t3 =>
        brn (tVals t3 0 1) (
          (pBin .add false x0 (vi 1)).bind fun t4 =>
          (pBin .add false x1 (vi 1)).bind fun t5 =>
          L13c0_0 t4 t5 (rSet r0 t2 (cOver t3 0 [x0]))) (
          none)) (
        none)) (
      none)) (
    some ((A.top, [x0, A.sl 65 r0]))) :=
  (H_eq Try.func13 rfl).trans (by kernel_rfl)
theorem g14 (a0 a1 : A) : G 14 [a0, a1] =
  L14_0 a0 a1 (vi 0) :=
  (G_eq rfl Try.func14 rfl rfl).trans (by kernel_rfl)
theorem l14_0 (x0 x1 x2 : A) : L14_0 x0 x1 x2 =
  (pLenL x0).bind fun t0 =>
  (pBin .lss false x2 t0).bind fun t1 =>
  (pBool t1).bind fun t2 =>
  brn t2 (
    (pIndexAddr 1 x0 x2).bind fun t3 =>
    (pLoadP t3).bind fun t4 =>
    (pBin .neq false t4 x1).bind fun t5 =>
    (pBool t5).bind fun t6 =>
    brn t6 (
      some ((vi (-1), []))) (
      (pBin .add false x1 (vi 1)).bind fun t7 =>
      (pBin .add false x2 (vi 1)).bind fun t8 =>
      L14_0 x0 t7 t8)) (
    some ((x1, []))) :=
  (H_eq Try.func14 rfl).trans (by kernel_rfl)
theorem c15_0 (x0 x1 x2 : A) : C15_0 x0 x1 x2 =
  ((G 28 [x0]).bind (fin false)).bind fun t0 =>
  (pUn .not t0).bind fun t1 =>
  (pG t1 false (some x1)).bind fun t2 =>
  (pG t1 false ((G 28 [t2]).bind (fin false))).bind fun t3 =>
  (pG t1 false (pUn .not t3)).bind fun t4 =>
  (pPick t1 (vb true) t4).bind fun t5 =>
  (pG t5 false (some x2)).bind fun t6 =>
  (pG t5 false ((G 29 [t6, vi 1, vi 12]).bind (fin false))).bind fun t7 =>
  (pG t5 false (pUn .not t7)).bind fun t8 =>
  (pPick t5 (vb true) t8).bind fun t9 =>
  (pBool t9).bind fun t10 =>
  brn t10 (
    some ((A.top, [vb false, A.sl 1 []]))) (
    (C30_0 x0 x1 x2).bind fun t11 =>
    (hD t11 0).bind fun t12 =>
    (hR 1 t11 1).bind fun t13 =>
    some ((A.top, [t12, A.sl 1 t13]))) :=
  (V_eq rfl Try.func15 rfl rfl).trans (by kernel_rfl)
theorem c16_0 (x0 : A) : C16_0 x0 =
  (pLenL x0).bind fun t0 =>
  (pMake 8 t0 t0).bind fun t1 =>
  L16c0_0 x0 (vi 0) (rRep t1 [vi 0]) :=
  (V_eq rfl Try.func16 rfl rfl).trans (by kernel_rfl)
theorem l16c0_0 (x0 x1 : A) (r0 : List (List A)) : L16c0_0 x0 x1 r0 =
  (pLenL x0).bind fun t2 =>
  (pBin .lss false x1 t2).bind fun t3 =>
  (pBool t3).bind fun t4 =>
  brn t4 (
    (pIndexAddr 1 x0 x1).bind fun t5 =>
    (pLoadP t5).bind fun t6 =>
    (pIx (rLenN r0) x1).bind fun t7 =>
    brn (okA t6) (
      brn (isVal t6) (
        (rGet r0 t7).bind fun t8 =>
        (pBin .add false x1 (vi 1)).bind fun t9 =>
        L16c0_0 x0 t9 (rSet r0 t7 (cOver t8 0 [t6]))) (
        none)) (
      none)) (
    some ((A.top, [A.sl 65 r0]))) :=
  (H_eq Try.func16 rfl).trans (by kernel_rfl)
theorem c17_0 (x0 x1 x2 : A) : C17_0 x0 x1 x2 =
  ((G 31 [x0]).bind (fin false)).bind fun t0 =>
  (pUn .not t0).bind fun t1 =>
  (pG t1 false (some x1)).bind fun t2 =>
  (pG t1 false ((G 31 [t2]).bind (fin false))).bind fun t3 =>
  (pG t1 false (pUn .not t3)).bind fun t4 =>
  (pPick t1 (vb true) t4).bind fun t5 =>
  (pG t5 false (some x2)).bind fun t6 =>
  (pG t5 false ((G 32 [t6]).bind (fin false))).bind fun t7 =>
  (pG t5 false (pUn .not t7)).bind fun t8 =>
  (pPick t5 (vb true) t8).bind fun t9 =>
  (pG t9 false (some x0)).bind fun t10 =>
  (pG t9 false (some x2)).bind fun t11 =>
  (pG t9 false ((G 33 [t10, t11]).bind (fin false))).bind fun t12 =>
  (pG t9 false (pUn .not t12)).bind fun t13 =>
  (pPick t9 (vb true) t13).bind fun t14 =>
  (pG t14 false (some x1)).bind fun t15 =>
  (pG t14 false (some x2)).bind fun t16 =>
  (pG t14 false (pUn .neg t16)).bind fun t17 =>
  (pG t14 false ((G 33 [t15, t17]).bind (fin false))).bind fun t18 =>
  (pG t14 false (pUn .not t18)).bind fun t19 =>
  (pPick t14 (vb true) t19).bind fun t20 =>
  (pBool t20).bind fun t21 =>
  brn t21 (
    some ((A.top, [vb false, A.sl 1 []]))) (
    brn (okA x0) (
      brn (okA x1) (
        (C34_0 [[x0], [x1]]).bind fun t22 =>
        (hR 1 t22 0).bind fun t23 =>
        L17c0_0 x2 (rLen t23) (vi 0) t23 []) (
        none)) (
      none)) :=
  (V_eq rfl Try.func17 rfl rfl).trans (by kernel_rfl)
theorem l17c0_0 (x0 x1 x2 : A) (r0 r1 : List (List A)) : L17c0_0 x0 x1 x2 r0 r1 =
  (pBin .lss false x2 x1).bind fun t24 =>
  (pBool t24).bind fun t25 =>
  brn t25 (
    (pIx (rLenN r0) x2).bind fun t26 =>
    (pRowP r0 t26 0).bind fun t27 =>
    (pBin .eql false t27 x0).bind fun t28 =>
    (pG t28 false (some t27)).bind fun t29 =>
    (pG t28 false (some x0)).bind fun t30 =>
    (pG t28 false (pUn .neg t30)).bind fun t31 =>
    (pG t28 false (pBin .eql false t29 t31)).bind fun t32 =>
    (pPick t28 (vb true) t32).bind fun t33 =>
    (pWant t33 false).bind fun t34 =>
    (pG t33 false (some t27)).bind fun t35 =>
    (pG t33 false ((G 33 [A.sl 1 r1, t35]).bind (fin true))).bind fun t36 =>
    (pPick t33 (vb true) t36).bind fun t37 =>
    (pBool t37).bind fun t38 =>
    brn t38 (
      (pBin .add false x2 (vi 1)).bind fun t39 =>
      L17c0_1 x0 x1 t39 r1 r0) (
      (pUn .neg t27).bind fun t40 =>
      ((G 33 [A.sl 1 r1, t40]).bind (fin true)).bind fun t41 =>
      (pBool t41).bind fun t42 =>
      brn t42 (
        some ((A.top, [vb false, A.sl 1 []]))) (
        brn (okA t27) (
          brn (pFit ((rLenN r1) + (rLenN [[t27]])) 8) (
            (pBin .add false x2 (vi 1)).bind fun t43 =>
            L17c0_1 x0 x1 t43 (rApp r1 [[t27]]) r0) (
            none)) (
          none)))) (
    (C35_0 r1).bind fun t44 =>
    (hR 1 t44 0).bind fun t45 =>
    some ((A.top, [vb true, A.sl 1 t45]))) :=
  (H_eq Try.func17 rfl).trans (by kernel_rfl)
theorem l17c0_1 (x0 x1 x2 : A) (r0 r1 : List (List A)) : L17c0_1 x0 x1 x2 r0 r1 =
  (pBin .lss false x2 x1).bind fun t46 =>
  (pBool t46).bind fun t47 =>
  brn t47 (
    (pIx (rLenN r1) x2).bind fun t48 =>
    (pRowP r1 t48 0).bind fun t49 =>
    (pBin .eql false t49 x0).bind fun t50 =>
    (pG t50 false (some t49)).bind fun t51 =>
    (pG t50 false (some x0)).bind fun t52 =>
    (pG t50 false (pUn .neg t52)).bind fun t53 =>
    (pG t50 false (pBin .eql false t51 t53)).bind fun t54 =>
    (pPick t50 (vb true) t54).bind fun t55 =>
    (pWant t55 false).bind fun t56 =>
    (pG t55 false (some t49)).bind fun t57 =>
    (pG t55 false ((G 33 [A.sl 1 r0, t57]).bind (fin true))).bind fun t58 =>
    (pPick t55 (vb true) t58).bind fun t59 =>
    (pBool t59).bind fun t60 =>
    brn t60 (
      (pBin .add false x2 (vi 1)).bind fun t61 =>
      L17c0_1 x0 x1 t61 r0 r1) (
      (pUn .neg t49).bind fun t62 =>
      ((G 33 [A.sl 1 r0, t62]).bind (fin true)).bind fun t63 =>
      (pBool t63).bind fun t64 =>
      brn t64 (
        some ((A.top, [vb false, A.sl 1 []]))) (
        brn (okA t49) (
          brn (pFit ((rLenN r0) + (rLenN [[t49]])) 8) (
            (pBin .add false x2 (vi 1)).bind fun t65 =>
            L17c0_1 x0 x1 t65 (rApp r0 [[t49]]) r1) (
            none)) (
          none)))) (
    (C35_0 r0).bind fun t66 =>
    (hR 1 t66 0).bind fun t67 =>
    some ((A.top, [vb true, A.sl 1 t67]))) :=
  (H_eq Try.func17 rfl).trans (by kernel_rfl)
theorem c18_0 (x0 x1 : A) : C18_0 x0 x1 =
  ((G 21 [x0]).bind (fin false)).bind fun t0 =>
  (pUn .not t0).bind fun t1 =>
  (pG t1 false (some x1)).bind fun t2 =>
  (pG t1 false ((G 28 [t2]).bind (fin false))).bind fun t3 =>
  (pG t1 false (pUn .not t3)).bind fun t4 =>
  (pPick t1 (vb true) t4).bind fun t5 =>
  (pBool t5).bind fun t6 =>
  brn t6 (
    some ((A.top, [vi 0, vb false, A.sl 1 []]))) (
    (C37_0 x1).bind fun t7 =>
    (hR 1 t7 0).bind fun t8 =>
    L18c0_0 x0 t8) :=
  (V_eq rfl Try.func18 rfl rfl).trans (by kernel_rfl)
theorem l18c0_0 (x0 : A) (r0 : List (List A)) : L18c0_0 x0 r0 =
  L18c0_1 x0 (vi 0) (vi 0) r0 :=
  (H_eq Try.func18 rfl).trans (by kernel_rfl)
theorem l18c0_1 (x0 x1 x2 : A) (r0 : List (List A)) : L18c0_1 x0 x1 x2 r0 =
  (pLenL x0).bind fun t9 =>
  (pBin .lss false x2 t9).bind fun t10 =>
  (pG t10 true (some x1)).bind fun t11 =>
  (pG t10 true (pBin .eql false t11 (vi 0))).bind fun t12 =>
  (pPick t10 t12 (vb false)).bind fun t13 =>
  (pBool t13).bind fun t14 =>
  brn t14 (
    (pIndexAddr 1 x0 x2).bind fun t15 =>
    (pLoadP t15).bind fun t16 =>
    ((G 38 [t16, A.sl 1 r0]).bind (fin true)).bind fun t17 =>
    (pTup t17 0).bind fun t18 =>
    (pTup t17 1).bind fun t19 =>
    (pBin .eql false t18 (vi 0)).bind fun t20 =>
    (pBool t20).bind fun t21 =>
    brn t21 (
      some ((A.top, [x2, vb true, A.sl 1 r0]))) (
      (pBin .eql false t18 (vi 1)).bind fun t22 =>
      (pBool t22).bind fun t23 =>
      brn t23 (
        (pBin .add false x2 (vi 1)).bind fun t24 =>
        L18c0_1 x0 t19 t24 r0) (
        (pBin .add false x2 (vi 1)).bind fun t25 =>
        L18c0_1 x0 x1 t25 r0))) (
    (pBin .eql false x1 (vi 0)).bind fun t26 =>
    (pBool t26).bind fun t27 =>
    brn t27 (
      some ((A.top, [vi (-1), vb true, A.sl 1 r0]))) (
      (C39_0 (A.sl 1 r0) x1).bind fun t28 =>
      (hR 1 t28 0).bind fun t29 =>
      brn (flatR t29) (
        L18c0_0 x0 t29) (
        none))) :=
  (H_eq Try.func18 rfl).trans (by kernel_rfl)
theorem c19_0 (x0 x1 : A) : C19_0 x0 x1 =
  ((G 24 [x0]).bind (fin false)).bind fun t0 =>
  (pUn .not t0).bind fun t1 =>
  (pG t1 false (some x1)).bind fun t2 =>
  (pG t1 false ((G 31 [t2]).bind (fin false))).bind fun t3 =>
  (pG t1 false (pUn .not t3)).bind fun t4 =>
  (pPick t1 (vb true) t4).bind fun t5 =>
  (pBool t5).bind fun t6 =>
  brn t6 (
    some ((A.top, [vi 0, vb false, A.sl 1 []]))) (
    (C40_0 x1).bind fun t7 =>
    (hR 1 t7 0).bind fun t8 =>
    L19c0_0 x0 t8) :=
  (V_eq rfl Try.func19 rfl rfl).trans (by kernel_rfl)
theorem l19c0_0 (x0 : A) (r0 : List (List A)) : L19c0_0 x0 r0 =
  ((G 41 [x0, A.fn 42 [A.elt [A.sl 1 r0] 0]]).bind (fin true)).bind fun t9 =>
  (pBin .lss false t9 (vi 0)).bind fun t10 =>
  (pBool t10).bind fun t11 =>
  brn t11 (
    some ((A.top, [vi (-1), vb true, A.sl 1 r0]))) (
    (pIndexAddr 1 x0 t9).bind fun t12 =>
    (pLoadP t12).bind fun t13 =>
    (C44_0 t13 (A.sl 1 r0)).bind fun t14 =>
    (hR 1 t14 0).bind fun t15 =>
    brn (flatR t15) (
      (pBin .eql false (rLen t15) (vi 0)).bind fun t16 =>
      (pBool t16).bind fun t17 =>
      brn t17 (
        some ((A.top, [t9, vb true, A.sl 1 r0]))) (
        (pIx (rLenN t15) (vi 0)).bind fun t18 =>
        (pRowP t15 t18 0).bind fun t19 =>
        brn (okA t19) (
          brn (pFit ((rLenN r0) + (rLenN [[t19]])) 8) (
            (C35_0 (rApp r0 [[t19]])).bind fun t20 =>
            (hR 1 t20 0).bind fun t21 =>
            L19c0_0 x0 t21) (
            none)) (
          none))) (
      none)) :=
  (H_eq Try.func19 rfl).trans (by kernel_rfl)
theorem g20 (a0 a1 : A) : G 20 [a0, a1] =
  (pLenL a0).bind fun t0 =>
  (pBin .sub false a1 t0).bind fun t1 =>
  (pBin .lss false t1 (vi 0)).bind fun t2 =>
  (pBool t2).bind fun t3 =>
  brn t3 (
    some ((vi (-1), []))) (
    some ((t1, []))) :=
  (G_eq rfl Try.func20 rfl rfl).trans (by kernel_rfl)
theorem g21 (a0 : A) : G 21 [a0] =
  L21_0 a0 (vi 0) :=
  (G_eq rfl Try.func21 rfl rfl).trans (by kernel_rfl)
theorem l21_0 (x0 x1 : A) : L21_0 x0 x1 =
  (pLenL x0).bind fun t0 =>
  (pBin .lss false x1 t0).bind fun t1 =>
  (pG t1 true (some x1)).bind fun t2 =>
  (pG t1 true (pBin .leq false t2 (vi 40))).bind fun t3 =>
  (pPick t1 t3 (vb false)).bind fun t4 =>
  (pBool t4).bind fun t5 =>
  brn t5 (
    (pIndexAddr 1 x0 x1).bind fun t6 =>
    (pLoadP t6).bind fun t7 =>
    ((G 28 [t7]).bind (fin false)).bind fun t8 =>
    (pUn .not t8).bind fun t9 =>
    (pBool t9).bind fun t10 =>
    brn t10 (
      some ((vb false, []))) (
      (pBin .add false x1 (vi 1)).bind fun t11 =>
      L21_0 x0 t11)) (
    (pLenL x0).bind fun t12 =>
    (pBin .leq false t12 (vi 40)).bind fun t13 =>
    some ((t13, []))) :=
  (H_eq Try.func21 rfl).trans (by kernel_rfl)
theorem c22_0 (x0 x1 x2 x3 : A) : C22_0 x0 x1 x2 x3 =
  ((G 45 [x0, x1]).bind (fin false)).bind fun t0 =>
  (pBin .geq false t0 (vi 0)).bind fun t1 =>
  (pBool t1).bind fun t2 =>
  brn t2 (
    some ((A.top, [vb false, A.sl 1 []]))) (
    (pBin .gtr false x2 x3).bind fun t3 =>
    (pBool t3).bind fun t4 =>
    brn t4 (
      (C37_0 x1).bind fun t5 =>
      (hR 1 t5 0).bind fun t6 =>
      some ((A.top, [vb true, A.sl 1 t6]))) (
      (C37_0 x1).bind fun t7 =>
      (hR 1 t7 0).bind fun t8 =>
      brn (okA x2) (
        brn (pFit ((rLenN t8) + (rLenN [[x2]])) 8) (
          (pBin .add false x2 (vi 1)).bind fun t9 =>
          (C22_0 x0 (A.sl 1 (rApp t8 [[x2]])) t9 x3).bind fun t10 =>
          (hD t10 0).bind fun t11 =>
          (hR 1 t10 1).bind fun t12 =>
          brn (flatA t11) (
            brn (flatR t12) (
              (pBool t11).bind fun t13 =>
              brn t13 (
                some ((A.top, [vb true, A.sl 1 t12]))) (
                (C37_0 x1).bind fun t14 =>
                (hR 1 t14 0).bind fun t15 =>
                (pUn .neg x2).bind fun t16 =>
                brn (okA t16) (
                  brn (pFit ((rLenN t15) + (rLenN [[t16]])) 8) (
                    (pBin .add false x2 (vi 1)).bind fun t17 =>
                    (C22_0 x0 (A.sl 1 (rApp t15 [[t16]])) t17 x3).bind fun t18 =>
                    (hD t18 0).bind fun t19 =>
                    (hR 1 t18 1).bind fun t20 =>
                    brn (flatA t19) (
                      brn (flatR t20) (
                        some ((A.top, [t19, A.sl 1 t20]))) (
                        none)) (
                      none)) (
                    none)) (
                  none))) (
              none)) (
            none)) (
          none)) (
        none))) :=
  (V_eq rfl Try.func22 rfl rfl).trans (by kernel_rfl)
theorem g23 (a0 : A) : G 23 [a0] =
  L23_0 a0 (vi 0) (vi 0) :=
  (G_eq rfl Try.func23 rfl rfl).trans (by kernel_rfl)
theorem l23_0 (x0 x1 x2 : A) : L23_0 x0 x1 x2 =
  (pLenL x0).bind fun t0 =>
  (pBin .lss false x2 t0).bind fun t1 =>
  (pBool t1).bind fun t2 =>
  brn t2 (
    L23_1 x0 x1 x2 (vi 0)) (
    some ((x1, []))) :=
  (H_eq Try.func23 rfl).trans (by kernel_rfl)
theorem l23_1 (x0 x1 x2 x3 : A) : L23_1 x0 x1 x2 x3 =
  (pIndexAddr 1 x0 x2).bind fun t3 =>
  (pLoadP t3).bind fun t4 =>
  (pLenL t4).bind fun t5 =>
  (pBin .lss false x3 t5).bind fun t6 =>
  (pBool t6).bind fun t7 =>
  brn t7 (
    (pIndexAddr 1 x0 x2).bind fun t8 =>
    (pLoadP t8).bind fun t9 =>
    (pIndexAddr 1 t9 x3).bind fun t10 =>
    (pLoadP t10).bind fun t11 =>
    ((G 47 [t11]).bind (fin false)).bind fun t12 =>
    ((G 46 [x1, t12]).bind (fin false)).bind fun t13 =>
    (pBin .add false x3 (vi 1)).bind fun t14 =>
    L23_1 x0 t13 x2 t14) (
    (pBin .add false x2 (vi 1)).bind fun t15 =>
    L23_0 x0 x1 t15) :=
  (H_eq Try.func23 rfl).trans (by kernel_rfl)
theorem g24 (a0 : A) : G 24 [a0] =
  (pLenL a0).bind fun t0 =>
  (pBin .leq false t0 (vi 40)).bind fun t1 =>
  (pG t1 true (some a0)).bind fun t2 =>
  (pG t1 true ((G 48 [t2, A.fn 49 []]).bind (fin false))).bind fun t3 =>
  (pG t1 true (pUn .not t3)).bind fun t4 =>
  (pPick t1 t4 (vb false)).bind fun t5 =>
  some ((t5, [])) :=
  (G_eq rfl Try.func24 rfl rfl).trans (by kernel_rfl)
theorem g25 (a0 : A) : G 25 [a0] =
  (pLenL a0).bind fun t0 =>
  L25_0 (vi 0) a0 t0 (vi 0) :=
  (G_eq rfl Try.func25 rfl rfl).trans (by kernel_rfl)
theorem l25_0 (x0 x1 x2 x3 : A) : L25_0 x0 x1 x2 x3 =
  (pBin .lss false x3 x2).bind fun t1 =>
  (pBool t1).bind fun t2 =>
  brn t2 (
    (pIndexAddr 1 x1 x3).bind fun t3 =>
    (pLoadP t3).bind fun t4 =>
    (pLenL t4).bind fun t5 =>
    L25_1 x0 x1 x2 x3 t4 t5 (vi 0)) (
    some ((x0, []))) :=
  (H_eq Try.func25 rfl).trans (by kernel_rfl)
theorem l25_1 (x0 x1 x2 x3 x4 x5 x6 : A) : L25_1 x0 x1 x2 x3 x4 x5 x6 =
  (pBin .lss false x6 x5).bind fun t6 =>
  (pBool t6).bind fun t7 =>
  brn t7 (
    (pIndexAddr 1 x4 x6).bind fun t8 =>
    (pLoadP t8).bind fun t9 =>
    ((G 50 [t9]).bind (fin false)).bind fun t10 =>
    (pMax x0 t10).bind fun t11 =>
    (pBin .add false x6 (vi 1)).bind fun t12 =>
    L25_1 t11 x1 x2 x3 x4 x5 t12) (
    (pBin .add false x3 (vi 1)).bind fun t13 =>
    L25_0 x0 x1 x2 t13) :=
  (H_eq Try.func25 rfl).trans (by kernel_rfl)
theorem c26_0 (x0 x1 : A) : C26_0 x0 x1 =
  (pMake 8 x1 x1).bind fun t0 =>
  L26c0_0 x0 x1 (rRep t0 [vi 0]) :=
  (V_eq rfl Try.func26 rfl rfl).trans (by kernel_rfl)
theorem l26c0_0 (x0 x1 : A) (r0 : List (List A)) : L26c0_0 x0 x1 r0 =
  (pBin .geq false x1 (vi 1)).bind fun t1 =>
  (pBool t1).bind fun t2 =>
  brn t2 (
    (pBin .sub false x1 (vi 1)).bind fun t3 =>
    (pIx (rLenN r0) t3).bind fun t4 =>
    brn (okA x1) (
      (rGet r0 t4).bind fun t5 =>
      (pBin .and false x0 (vi 1)).bind fun t6 =>
      (pBin .eql false t6 (vi 1)).bind fun t7 =>
      (pBool t7).bind fun t8 =>
      brn t8 (
        (pBin .sub false x1 (vi 1)).bind fun t9 =>
        (pUn .neg x1).bind fun t10 =>
        (pIx (rLenN (rSet r0 t4 (cOver t5 0 [x1]))) t9).bind fun t11 =>
        brn (okA t10) (
          (rGet (rSet r0 t4 (cOver t5 0 [x1])) t11).bind fun t12 =>
          (pBin .shr false x0 (A.val (.int .u64 1))).bind fun t13 =>
          (pBin .sub false x1 (vi 1)).bind fun t14 =>
          L26c0_0 t13 t14 (rSet (rSet r0 t4 (cOver t5 0 [x1])) t11 (cOver t12 0 [t10]))) (
          none)) (
        (pBin .shr false x0 (A.val (.int .u64 1))).bind fun t15 =>
        (pBin .sub false x1 (vi 1)).bind fun t16 =>
        L26c0_0 t15 t16 (rSet r0 t4 (cOver t5 0 [x1])))) (
      none)) (
    some ((A.top, [A.sl 1 r0]))) :=
  (H_eq Try.func26 rfl).trans (by kernel_rfl)
theorem g27 (a0 a1 : A) : G 27 [a0, a1] =
  brn (okA a1) (
    ((G 48 [a0, A.fn 51 [A.elt [a1] 0]]).bind (fin true)).bind fun t0 =>
    (pUn .not t0).bind fun t1 =>
    some ((t1, []))) (
    none) :=
  (G_eq rfl Try.func27 rfl rfl).trans (by kernel_rfl)
theorem g28 (a0 : A) : G 28 [a0] =
  L28_0 a0 (vi 0) :=
  (G_eq rfl Try.func28 rfl rfl).trans (by kernel_rfl)
theorem l28_0 (x0 x1 : A) : L28_0 x0 x1 =
  (pLenL x0).bind fun t0 =>
  (pBin .lss false x1 t0).bind fun t1 =>
  (pBool t1).bind fun t2 =>
  brn t2 (
    (pIndexAddr 1 x0 x1).bind fun t3 =>
    (pLoadP t3).bind fun t4 =>
    ((G 47 [t4]).bind (fin false)).bind fun t5 =>
    ((G 29 [t5, vi 1, vi 12]).bind (fin false)).bind fun t6 =>
    (pUn .not t6).bind fun t7 =>
    (pG t7 false (some x1)).bind fun t8 =>
    (pG t7 false (pBin .gtr false t8 (vi 0))).bind fun t9 =>
    (pG t7 false (some t9)).bind fun t10 =>
    (pG t10 true (some x0)).bind fun t11 =>
    (pG t10 true (some x1)).bind fun t12 =>
    (pG t10 true (pBin .sub false t12 (vi 1))).bind fun t13 =>
    (pG t10 true (pIndexAddr 1 t11 t13)).bind fun t14 =>
    (pG t10 true (pLoadP t14)).bind fun t15 =>
    (pG t10 true ((G 47 [t15]).bind (fin false))).bind fun t16 =>
    (pG t10 true (some x0)).bind fun t17 =>
    (pG t10 true (some x1)).bind fun t18 =>
    (pG t10 true (pIndexAddr 1 t17 t18)).bind fun t19 =>
    (pG t10 true (pLoadP t19)).bind fun t20 =>
    (pG t10 true ((G 47 [t20]).bind (fin false))).bind fun t21 =>
    (pG t10 true (pBin .geq false t16 t21)).bind fun t22 =>
    (pG t7 false (pPick t10 t22 (vb false))).bind fun t23 =>
    (pPick t7 (vb true) t23).bind fun t24 =>
    (pBool t24).bind fun t25 =>
    brn t25 (
      some ((vb false, []))) (
      (pBin .add false x1 (vi 1)).bind fun t26 =>
      L28_0 x0 t26)) (
    some ((vb true, []))) :=
  (H_eq Try.func28 rfl).trans (by kernel_rfl)
theorem g29 (a0 a1 a2 : A) : G 29 [a0, a1, a2] =
  (pBin .geq false a0 a1).bind fun t0 =>
  (pG t0 true (some a0)).bind fun t1 =>
  (pG t0 true (some a2)).bind fun t2 =>
  (pG t0 true (pBin .leq false t1 t2)).bind fun t3 =>
  (pPick t0 t3 (vb false)).bind fun t4 =>
  some ((t4, [])) :=
  (G_eq rfl Try.func29 rfl rfl).trans (by kernel_rfl)
theorem c30_0 (x0 x1 x2 : A) : C30_0 x0 x1 x2 =
  ((G 52 [x0, x2]).bind (fin false)).bind fun t0 =>
  (pUn .not t0).bind fun t1 =>
  (pG t1 false (some x1)).bind fun t2 =>
  (pG t1 false (some x2)).bind fun t3 =>
  (pG t1 false (pUn .neg t3)).bind fun t4 =>
  (pG t1 false ((G 52 [t2, t4]).bind (fin false))).bind fun t5 =>
  (pG t1 false (pUn .not t5)).bind fun t6 =>
  (pPick t1 (vb true) t6).bind fun t7 =>
  (pBool t7).bind fun t8 =>
  brn t8 (
    some ((A.top, [vb false, A.sl 1 []]))) (
    L30c0_0 x0 x1 x2 (vi 0) []) :=
  (V_eq rfl Try.func30 rfl rfl).trans (by kernel_rfl)
theorem l30c0_0 (x0 x1 x2 x3 : A) (r0 : List (List A)) : L30c0_0 x0 x1 x2 x3 r0 =
  (pLenL x0).bind fun t9 =>
  (pBin .lss false x3 t9).bind fun t10 =>
  (pBool t10).bind fun t11 =>
  brn t11 (
    (pIndexAddr 1 x0 x3).bind fun t12 =>
    (pLoadP t12).bind fun t13 =>
    (pBin .neq false t13 x2).bind fun t14 =>
    (pBool t14).bind fun t15 =>
    brn t15 (
      (pIndexAddr 1 x0 x3).bind fun t16 =>
      (pLoadP t16).bind fun t17 =>
      brn (okA t17) (
        brn (pFit ((rLenN r0) + (rLenN [[t17]])) 8) (
          (pBin .add false x3 (vi 1)).bind fun t18 =>
          L30c0_0 x0 x1 x2 t18 (rApp r0 [[t17]])) (
          none)) (
        none)) (
      (pBin .add false x3 (vi 1)).bind fun t19 =>
      L30c0_0 x0 x1 x2 t19 r0)) (
    L30c0_1 x1 x2 (vi 0) r0) :=
  (H_eq Try.func30 rfl).trans (by kernel_rfl)
theorem l30c0_1 (x0 x1 x2 : A) (r0 : List (List A)) : L30c0_1 x0 x1 x2 r0 =
  (pLenL x0).bind fun t20 =>
  (pBin .lss false x2 t20).bind fun t21 =>
  (pBool t21).bind fun t22 =>
  brn t22 (
    (pIndexAddr 1 x0 x2).bind fun t23 =>
    (pLoadP t23).bind fun t24 =>
    (pUn .neg x1).bind fun t25 =>
    (pBin .eql false t24 t25).bind fun t26 =>
    (pWant t26 false).bind fun t27 =>
    (pG t26 false (some x0)).bind fun t28 =>
    (pG t26 false (some x2)).bind fun t29 =>
    (pG t26 false (pIndexAddr 1 t28 t29)).bind fun t30 =>
    (pG t26 false (pLoadP t30)).bind fun t31 =>
    (pG t26 false ((G 52 [A.sl 1 r0, t31]).bind (fin true))).bind fun t32 =>
    (pPick t26 (vb true) t32).bind fun t33 =>
    (pBool t33).bind fun t34 =>
    brn t34 (
      (pBin .add false x2 (vi 1)).bind fun t35 =>
      L30c0_1 x0 x1 t35 r0) (
      (pIndexAddr 1 x0 x2).bind fun t36 =>
      (pLoadP t36).bind fun t37 =>
      (pUn .neg t37).bind fun t38 =>
      ((G 52 [A.sl 1 r0, t38]).bind (fin true)).bind fun t39 =>
      (pBool t39).bind fun t40 =>
      brn t40 (
        some ((A.top, [vb false, A.sl 1 []]))) (
        (pIndexAddr 1 x0 x2).bind fun t41 =>
        (pLoadP t41).bind fun t42 =>
        (C39_0 (A.sl 1 r0) t42).bind fun t43 =>
        (hR 1 t43 0).bind fun t44 =>
        brn (flatR t44) (
          (pBin .add false x2 (vi 1)).bind fun t45 =>
          L30c0_1 x0 x1 t45 t44) (
          none)))) (
    some ((A.top, [vb true, A.sl 1 r0]))) :=
  (H_eq Try.func30 rfl).trans (by kernel_rfl)
theorem g31 (a0 : A) : G 31 [a0] =
  (pLenL a0).bind fun t0 =>
  L31_0 a0 a0 t0 (vi 0) :=
  (G_eq rfl Try.func31 rfl rfl).trans (by kernel_rfl)
theorem l31_0 (x0 x1 x2 x3 : A) : L31_0 x0 x1 x2 x3 =
  (pBin .lss false x3 x2).bind fun t1 =>
  (pBool t1).bind fun t2 =>
  brn t2 (
    (pIndexAddr 1 x1 x3).bind fun t3 =>
    (pLoadP t3).bind fun t4 =>
    (pBin .eql false t4 (vi 0)).bind fun t5 =>
    (pG t5 false (some t4)).bind fun t6 =>
    (pG t5 false ((G 53 [t6, vi (-12), vi 12]).bind (fin false))).bind fun t7 =>
    (pG t5 false (pUn .not t7)).bind fun t8 =>
    (pPick t5 (vb true) t8).bind fun t9 =>
    (pG t9 false (some x3)).bind fun t10 =>
    (pG t9 false (pBin .gtr false t10 (vi 0))).bind fun t11 =>
    (pG t9 false (some t11)).bind fun t12 =>
    (pG t12 true (some x0)).bind fun t13 =>
    (pG t12 true (some x3)).bind fun t14 =>
    (pG t12 true (pBin .sub false t14 (vi 1))).bind fun t15 =>
    (pG t12 true (pIndexAddr 1 t13 t15)).bind fun t16 =>
    (pG t12 true (pLoadP t16)).bind fun t17 =>
    (pG t12 true ((G 50 [t17]).bind (fin false))).bind fun t18 =>
    (pG t12 true (some t4)).bind fun t19 =>
    (pG t12 true ((G 50 [t19]).bind (fin false))).bind fun t20 =>
    (pG t12 true (pBin .geq false t18 t20)).bind fun t21 =>
    (pG t9 false (pPick t12 t21 (vb false))).bind fun t22 =>
    (pPick t9 (vb true) t22).bind fun t23 =>
    (pBool t23).bind fun t24 =>
    brn t24 (
      some ((vb false, []))) (
      (pBin .add false x3 (vi 1)).bind fun t25 =>
      L31_0 x0 x1 x2 t25)) (
    some ((vb true, []))) :=
  (H_eq Try.func31 rfl).trans (by kernel_rfl)
theorem g32 (a0 : A) : G 32 [a0] =
  ((G 53 [a0, vi 1, vi 12]).bind (fin false)).bind fun t0 =>
  some ((t0, [])) :=
  (G_eq rfl Try.func32 rfl rfl).trans (by kernel_rfl)
theorem g33 (a0 a1 : A) : G 33 [a0, a1] =
  ((G 54 [a0, a1]).bind (fin false)).bind fun t0 =>
  (pBin .geq false t0 (vi 0)).bind fun t1 =>
  some ((t1, [])) :=
  (G_eq rfl Try.func33 rfl rfl).trans (by kernel_rfl)
theorem c34_0 (r0 : List (List A)) : C34_0 r0 =
  L34c0_0 (vi 0) (rLen r0) (vi 0) r0 :=
  (V_eq rfl Try.func34 rfl rfl).trans (by kernel_rfl)
theorem l34c0_0 (x0 x1 x2 : A) (r0 : List (List A)) : L34c0_0 x0 x1 x2 r0 =
  (pBin .lss false x2 x1).bind fun t0 =>
  (pBool t0).bind fun t1 =>
  brn t1 (
    (pIx (rLenN r0) x2).bind fun t2 =>
    (pRowP r0 t2 0).bind fun t3 =>
    (pLenL t3).bind fun t4 =>
    (pBin .add false x0 t4).bind fun t5 =>
    (pBin .lss false t5 (vi 0)).bind fun t6 =>
    (pBool t6).bind fun t7 =>
    brn t7 (
      none) (
      (pBin .add false x2 (vi 1)).bind fun t8 =>
      L34c0_0 t5 x1 t8 r0)) (
    (C55_0 x0).bind fun t9 =>
    (hR 1 t9 0).bind fun t10 =>
    L34c0_1 (rLen r0) (vi 0) t10 r0) :=
  (H_eq Try.func34 rfl).trans (by kernel_rfl)
theorem l34c0_1 (x0 x1 : A) (r0 r1 : List (List A)) : L34c0_1 x0 x1 r0 r1 =
  (pBin .lss false x1 x0).bind fun t11 =>
  (pBool t11).bind fun t12 =>
  brn t12 (
    (pIx (rLenN r1) x1).bind fun t13 =>
    (pRowP r1 t13 0).bind fun t14 =>
    (pRows 1 t14).bind fun t15 =>
    brn (pFit ((rLenN r0) + (rLenN t15)) 8) (
      (pBin .add false x1 (vi 1)).bind fun t16 =>
      L34c0_1 x0 t16 (rApp r0 t15) r1) (
      none)) (
    some ((A.top, [A.sl 1 r0]))) :=
  (H_eq Try.func34 rfl).trans (by kernel_rfl)
theorem c35_0 (r0 : List (List A)) : C35_0 r0 =
  (pConv .u64 (rLen r0)).bind fun t0 =>
  ((G 57 [t0]).bind (fin false)).bind fun t1 =>
  (C56_0 (vi 0) (rLen r0) t1 r0).bind fun t2 =>
  (hR 1 t2 0).bind fun t3 =>
  some ((A.top, [A.sl 1 t3])) :=
  (V_eq rfl Try.func35 rfl rfl).trans (by kernel_rfl)
theorem g36 (a0 a1 : A) : G 36 [a0, a1] =
  ((G 50 [a0]).bind (fin false)).bind fun t0 =>
  ((G 50 [a1]).bind (fin false)).bind fun t1 =>
  ((G 58 [t0, t1]).bind (fin false)).bind fun t2 =>
  some ((t2, [])) :=
  (G_eq rfl Try.func36 rfl rfl).trans (by kernel_rfl)
theorem c37_0 (x0 : A) : C37_0 x0 =
  (pRows 1 x0).bind fun t0 =>
  brn (pFit (rLenN t0) 8) (
    some ((A.top, [A.sl 1 t0]))) (
    none) :=
  (V_eq rfl Try.func37 rfl rfl).trans (by kernel_rfl)
theorem g38 (a0 a1 : A) : G 38 [a0, a1] =
  L38_0 a0 a1 (vi 0) (vi 0) (vi 0) :=
  (G_eq rfl Try.func38 rfl rfl).trans (by kernel_rfl)
theorem l38_0 (x0 x1 x2 x3 x4 : A) : L38_0 x0 x1 x2 x3 x4 =
  (pLenL x0).bind fun t0 =>
  (pBin .lss false x4 t0).bind fun t1 =>
  (pBool t1).bind fun t2 =>
  brn t2 (
    (pIndexAddr 1 x0 x4).bind fun t3 =>
    (pLoadP t3).bind fun t4 =>
    ((G 52 [x1, t4]).bind (fin false)).bind fun t5 =>
    (pBool t5).bind fun t6 =>
    brn t6 (
      some ((A.tup [vi (-1), vi 0], []))) (
      (pIndexAddr 1 x0 x4).bind fun t7 =>
      (pLoadP t7).bind fun t8 =>
      (pUn .neg t8).bind fun t9 =>
      ((G 52 [x1, t9]).bind (fin false)).bind fun t10 =>
      (pUn .not t10).bind fun t11 =>
      (pBool t11).bind fun t12 =>
      brn t12 (
        (pBin .add false x2 (vi 1)).bind fun t13 =>
        (pIndexAddr 1 x0 x4).bind fun t14 =>
        (pLoadP t14).bind fun t15 =>
        (pBin .add false x4 (vi 1)).bind fun t16 =>
        L38_0 x0 x1 t13 t15 t16) (
        (pBin .add false x4 (vi 1)).bind fun t17 =>
        L38_0 x0 x1 x2 x3 t17))) (
    some ((A.tup [x2, x3], []))) :=
  (H_eq Try.func38 rfl).trans (by kernel_rfl)
theorem c39_0 (x0 x1 : A) : C39_0 x0 x1 =
  L39c0_0 x0 x1 (vi 0) :=
  (V_eq rfl Try.func39 rfl rfl).trans (by kernel_rfl)
theorem l39c0_0 (x0 x1 x2 : A) : L39c0_0 x0 x1 x2 =
  (pLenL x0).bind fun t0 =>
  (pBin .lss false x2 t0).bind fun t1 =>
  (pG t1 true (some x0)).bind fun t2 =>
  (pG t1 true (some x2)).bind fun t3 =>
  (pG t1 true (pIndexAddr 1 t2 t3)).bind fun t4 =>
  (pG t1 true (pLoadP t4)).bind fun t5 =>
  (pG t1 true ((G 47 [t5]).bind (fin false))).bind fun t6 =>
  (pG t1 true (some x1)).bind fun t7 =>
  (pG t1 true ((G 47 [t7]).bind (fin false))).bind fun t8 =>
  (pG t1 true (pBin .lss false t6 t8)).bind fun t9 =>
  (pPick t1 t9 (vb false)).bind fun t10 =>
  (pBool t10).bind fun t11 =>
  brn t11 (
    (pBin .add false x2 (vi 1)).bind fun t12 =>
    L39c0_0 x0 x1 t12) (
    (pSlice 1 x0 none (some x2)).bind fun t13 =>
    (pRows 1 t13).bind fun t14 =>
    brn (pFit (rLenN t14) 8) (
      brn (okA x1) (
        brn (pFit ((rLenN t14) + (rLenN [[x1]])) 8) (
          (pSlice 1 x0 (some x2) none).bind fun t15 =>
          (pRows 1 t15).bind fun t16 =>
          brn (pFit ((rLenN (rApp t14 [[x1]])) + (rLenN t16)) 8) (
            some ((A.top, [A.sl 1 (rApp (rApp t14 [[x1]]) t16)]))) (
            none)) (
          none)) (
        none)) (
      none)) :=
  (H_eq Try.func39 rfl).trans (by kernel_rfl)
theorem c40_0 (x0 : A) : C40_0 x0 =
  (pSlA x0).bind fun t0 =>
  brn (nz (rCnt t0)) (
    bth (
      some ((A.top, [A.sl 1 []]))) (
      (pRows 1 x0).bind fun t1 =>
      brn (pFit (rLenN t1) 8) (
        some ((A.top, [A.sl 1 t1]))) (
        none))) (
    (pRows 1 x0).bind fun t2 =>
    brn (pFit (rLenN t2) 8) (
      some ((A.top, [A.sl 1 t2]))) (
      none)) :=
  (V_eq rfl Try.func40 rfl rfl).trans (by kernel_rfl)
theorem g41 (a0 a1 : A) : G 41 [a0, a1] =
  (pLenL a0).bind fun t0 =>
  L41_0 a0 a1 t0 (vi 0) :=
  (G_eq rfl Try.func41 rfl rfl).trans (by kernel_rfl)
theorem l41_0 (x0 x1 x2 x3 : A) : L41_0 x0 x1 x2 x3 =
  (pBin .lss false x3 x2).bind fun t1 =>
  (pBool t1).bind fun t2 =>
  brn t2 (
    (pIndexAddr 1 x0 x3).bind fun t3 =>
    (pLoadP t3).bind fun t4 =>
    (DX.run K (MM K) (.callc x1 [t4] false)).bind fun t5 =>
    (pBool t5).bind fun t6 =>
    brn t6 (
      some ((x3, []))) (
      (pBin .add false x3 (vi 1)).bind fun t7 =>
      L41_0 x0 x1 x2 t7)) (
    some ((vi (-1), []))) :=
  (H_eq Try.func41 rfl).trans (by kernel_rfl)
theorem g42 (a0 a1 : A) : G 42 [a0, a1] =
  (pLoadP a1).bind fun t0 =>
  ((G 43 [a0, t0]).bind (fin false)).bind fun t1 =>
  (pUn .not t1).bind fun t2 =>
  (pG t2 true (some a0)).bind fun t3 =>
  (pG t2 true (pLoadP a1)).bind fun t4 =>
  (pWant t2 true).bind fun t5 =>
  brn t5 (
    (C44_0 t3 t4).bind fun t6 =>
    (hR 1 t6 0).bind fun t7 =>
    brn (flatR t7) (
      (pG t2 true (some (rLen t7))).bind fun t8 =>
      (pG t2 true (pBin .leq false t8 (vi 1))).bind fun t9 =>
      (pPick t2 t9 (vb false)).bind fun t10 =>
      some ((t10, []))) (
      none)) (
    (pG t2 true (pLenL (A.val undef))).bind fun t11 =>
    (pG t2 true (pBin .leq false t11 (vi 1))).bind fun t12 =>
    (pPick t2 t12 (vb false)).bind fun t13 =>
    some ((t13, []))) :=
  (G_eq rfl Try.func42 rfl rfl).trans (by kernel_rfl)
theorem g43 (a0 a1 : A) : G 43 [a0, a1] =
  brn (okA a1) (
    ((G 59 [a0, A.fn 60 [A.elt [a1] 0]]).bind (fin true)).bind fun t0 =>
    some ((t0, []))) (
    none) :=
  (G_eq rfl Try.func43 rfl rfl).trans (by kernel_rfl)
theorem c44_0 (x0 x1 : A) : C44_0 x0 x1 =
  brn (okA x1) (
    (C40_0 x0).bind fun t0 =>
    (hR 1 t0 0).bind fun t1 =>
    (C61_0 x1 t1).bind fun t2 =>
    (hD t2 0).bind fun t3 =>
    (hR 1 t2 1).bind fun t4 =>
    some ((A.top, [A.sl 1 t4]))) (
    none) :=
  (V_eq rfl Try.func44 rfl rfl).trans (by kernel_rfl)
theorem g45 (a0 a1 : A) : G 45 [a0, a1] =
  L45_0 a0 a1 (vi 0) :=
  (G_eq rfl Try.func45 rfl rfl).trans (by kernel_rfl)
theorem l45_0 (x0 x1 x2 : A) : L45_0 x0 x1 x2 =
  (pLenL x0).bind fun t0 =>
  (pBin .lss false x2 t0).bind fun t1 =>
  (pBool t1).bind fun t2 =>
  brn t2 (
    (pIndexAddr 1 x0 x2).bind fun t3 =>
    (pLoadP t3).bind fun t4 =>
    ((G 38 [t4, x1]).bind (fin false)).bind fun t5 =>
    (pTup t5 0).bind fun t6 =>
    (pTup t5 1).bind fun t7 =>
    (pBin .eql false t6 (vi 0)).bind fun t8 =>
    (pBool t8).bind fun t9 =>
    brn t9 (
      some ((x2, []))) (
      (pBin .add false x2 (vi 1)).bind fun t10 =>
      L45_0 x0 x1 t10)) (
    some ((vi (-1), []))) :=
  (H_eq Try.func45 rfl).trans (by kernel_rfl)
theorem g46 (a0 a1 : A) : G 46 [a0, a1] =
  (pBin .gtr false a0 a1).bind fun t0 =>
  (pBool t0).bind fun t1 =>
  brn t1 (
    some ((a0, []))) (
    some ((a1, []))) :=
  (G_eq rfl Try.func46 rfl rfl).trans (by kernel_rfl)
theorem g47 (a0 : A) : G 47 [a0] =
  (pBin .lss false a0 (vi 0)).bind fun t0 =>
  (pBool t0).bind fun t1 =>
  brn t1 (
    (pUn .neg a0).bind fun t2 =>
    some ((t2, []))) (
    some ((a0, []))) :=
  (G_eq rfl Try.func47 rfl rfl).trans (by kernel_rfl)
theorem g48 (a0 a1 : A) : G 48 [a0, a1] =
  ((G 41 [a0, a1]).bind (fin false)).bind fun t0 =>
  (pBin .geq false t0 (vi 0)).bind fun t1 =>
  some ((t1, [])) :=
  (G_eq rfl Try.func48 rfl rfl).trans (by kernel_rfl)
theorem g49 (a0 : A) : G 49 [a0] =
  ((G 31 [a0]).bind (fin false)).bind fun t0 =>
  (pUn .not t0).bind fun t1 =>
  some ((t1, [])) :=
  (G_eq rfl Try.func49 rfl rfl).trans (by kernel_rfl)
theorem g50 (a0 : A) : G 50 [a0] =
  (pUn .neg a0).bind fun t0 =>
  (pMax a0 t0).bind fun t1 =>
  some ((t1, [])) :=
  (G_eq rfl Try.func50 rfl rfl).trans (by kernel_rfl)
theorem g51 (a0 a1 : A) : G 51 [a0, a1] =
  (pLoadP a1).bind fun t0 =>
  ((G 43 [a0, t0]).bind (fin false)).bind fun t1 =>
  (pUn .not t1).bind fun t2 =>
  some ((t2, [])) :=
  (G_eq rfl Try.func51 rfl rfl).trans (by kernel_rfl)
theorem g52 (a0 a1 : A) : G 52 [a0, a1] =
  L52_0 a0 a1 (vi 0) :=
  (G_eq rfl Try.func52 rfl rfl).trans (by kernel_rfl)
theorem l52_0 (x0 x1 x2 : A) : L52_0 x0 x1 x2 =
  (pLenL x0).bind fun t0 =>
  (pBin .lss false x2 t0).bind fun t1 =>
  (pBool t1).bind fun t2 =>
  brn t2 (
    (pIndexAddr 1 x0 x2).bind fun t3 =>
    (pLoadP t3).bind fun t4 =>
    (pBin .eql false t4 x1).bind fun t5 =>
    (pBool t5).bind fun t6 =>
    brn t6 (
      some ((vb true, []))) (
      (pBin .add false x2 (vi 1)).bind fun t7 =>
      L52_0 x0 x1 t7)) (
    some ((vb false, []))) :=
  (H_eq Try.func52 rfl).trans (by kernel_rfl)
theorem g53 (a0 a1 a2 : A) : G 53 [a0, a1, a2] =
  (pBin .geq false a0 a1).bind fun t0 =>
  (pG t0 true (some a0)).bind fun t1 =>
  (pG t0 true (some a2)).bind fun t2 =>
  (pG t0 true (pBin .leq false t1 t2)).bind fun t3 =>
  (pPick t0 t3 (vb false)).bind fun t4 =>
  some ((t4, [])) :=
  (G_eq rfl Try.func53 rfl rfl).trans (by kernel_rfl)
theorem g54 (a0 a1 : A) : G 54 [a0, a1] =
  (pLenL a0).bind fun t0 =>
  L54_0 a0 a1 t0 (vi 0) :=
  (G_eq rfl Try.func54 rfl rfl).trans (by kernel_rfl)
theorem l54_0 (x0 x1 x2 x3 : A) : L54_0 x0 x1 x2 x3 =
  (pBin .lss false x3 x2).bind fun t1 =>
  (pBool t1).bind fun t2 =>
  brn t2 (
    (pIndexAddr 1 x0 x3).bind fun t3 =>
    (pLoadP t3).bind fun t4 =>
    (pBin .eql false x1 t4).bind fun t5 =>
    (pBool t5).bind fun t6 =>
    brn t6 (
      some ((x3, []))) (
      (pBin .add false x3 (vi 1)).bind fun t7 =>
      L54_0 x0 x1 x2 t7)) (
    some ((vi (-1), []))) :=
  (H_eq Try.func54 rfl).trans (by kernel_rfl)
theorem c55_0 (x0 : A) : C55_0 x0 =
  (pBin .lss false x0 (vi 0)).bind fun t0 =>
  (pBool t0).bind fun t1 =>
  brn t1 (
    none) (
    (pBin .sub false (vi 0) (vi 0)).bind fun t2 =>
    (pBin .sub false x0 t2).bind fun t3 =>
    (pBin .gtr false t3 (vi 0)).bind fun t4 =>
    (pBool t4).bind fun t5 =>
    brn t5 (
      (pB 0 0 (some (vi 0))).bind fun t6 =>
      (pMake 8 t3 t3).bind fun t7 =>
      brn (pFit t7 8) (
        (pB (rCnt (rRep t7 [vi 0])) (rRem (rRep t7 [vi 0]) 0) (some (vi 0))).bind fun t8 =>
        some ((A.top, [A.sl 1 (List.take (nSub t8 0) (rRep t7 [vi 0]))]))) (
        none)) (
      some ((A.top, [A.sl 1 []])))) :=
  (V_eq rfl Try.func55 rfl rfl).trans (by kernel_rfl)
theorem c56_0 (x0 x1 x2 : A) (r0 : List (List A)) : C56_0 x0 x1 x2 r0 =
  L56c0_0 x0 x1 x2 (vb true) (vb true) r0 :=
  (V_eq rfl Try.func56 rfl rfl).trans (by kernel_rfl)
theorem l56c0_0 (x0 x1 x2 x3 x4 : A) (r0 : List (List A)) : L56c0_0 x0 x1 x2 x3 x4 r0 =
  (pBin .sub false x1 x0).bind fun t0 =>
  (pBin .leq false t0 (vi 12)).bind fun t1 =>
  (pBool t1).bind fun t2 =>
  brn t2 (
    (C63_0 x0 x1 r0).bind fun t3 =>
    (hR 1 t3 0).bind fun t4 =>
    some ((A.top, [A.sl 1 t4]))) (
    (pBin .eql false x2 (vi 0)).bind fun t5 =>
    (pBool t5).bind fun t6 =>
    brn t6 (
      none) (
      (pUn .not x3).bind fun t7 =>
      (pBool t7).bind fun t8 =>
      brn t8 (
        none) (
        none))) :=
  (H_eq Try.func56 rfl).trans (by kernel_rfl)
theorem g57 (a0 : A) : G 57 [a0] =
  (pBool (vb false)).bind fun t0 =>
  brn t0 (
    (pConv .u32 a0).bind fun t1 =>
    ((G 71 [t1]).bind (fin false)).bind fun t2 =>
    some ((t2, []))) (
    ((G 72 [a0]).bind (fin false)).bind fun t3 =>
    some ((t3, []))) :=
  (G_eq rfl Try.func57 rfl rfl).trans (by kernel_rfl)
theorem g58 (a0 a1 : A) : G 58 [a0, a1] =
  ((G 73 [a0]).bind (fin false)).bind fun t0 =>
  ((G 73 [a1]).bind (fin false)).bind fun t1 =>
  (pBool t0).bind fun t2 =>
  brn t2 (
    (pBool t1).bind fun t3 =>
    brn t3 (
      some ((vi 0, []))) (
      some ((vi (-1), [])))) (
    (pBool t1).bind fun t4 =>
    brn t4 (
      some ((vi 1, []))) (
      (pBin .lss false a0 a1).bind fun t5 =>
      (pBool t5).bind fun t6 =>
      brn t6 (
        some ((vi (-1), []))) (
        (pBin .gtr false a0 a1).bind fun t7 =>
        (pBool t7).bind fun t8 =>
        brn t8 (
          some ((vi 1, []))) (
          some ((vi 0, [])))))) :=
  (G_eq rfl Try.func58 rfl rfl).trans (by kernel_rfl)
theorem g59 (a0 a1 : A) : G 59 [a0, a1] =
  ((G 74 [a0, a1]).bind (fin false)).bind fun t0 =>
  (pBin .geq false t0 (vi 0)).bind fun t1 =>
  some ((t1, [])) :=
  (G_eq rfl Try.func59 rfl rfl).trans (by kernel_rfl)
theorem g60 (a0 a1 : A) : G 60 [a0, a1] =
  (pLoadP a1).bind fun t0 =>
  ((G 33 [t0, a0]).bind (fin false)).bind fun t1 =>
  some ((t1, [])) :=
  (G_eq rfl Try.func60 rfl rfl).trans (by kernel_rfl)
theorem c61_0 (x0 : A) (r0 : List (List A)) : C61_0 x0 r0 =
  ((G 74 [A.sl 1 r0, A.fn 62 [A.elt [x0] 0]]).bind (fin true)).bind fun t0 =>
  (pBin .eql false t0 (vi (-1))).bind fun t1 =>
  (pBool t1).bind fun t2 =>
  brn t2 (
    some ((A.top, [x0, A.sl 1 r0]))) (
    (pBin .add false t0 (vi 1)).bind fun t3 =>
    L61c0_0 t0 t3 x0 r0) :=
  (V_eq rfl Try.func61 rfl rfl).trans (by kernel_rfl)
theorem l61c0_0 (x0 x1 x2 : A) (r0 : List (List A)) : L61c0_0 x0 x1 x2 r0 =
  (pBin .lss false x1 (rLen r0)).bind fun t4 =>
  (pBool t4).bind fun t5 =>
  brn t5 (
    (pIx (rLenN r0) x1).bind fun t6 =>
    (pRowP r0 t6 0).bind fun t7 =>
    ((G 62 [t7, A.elt [x2] 0]).bind (fin true)).bind fun t8 =>
    (pUn .not t8).bind fun t9 =>
    (pBool t9).bind fun t10 =>
    brn t10 (
      (pIx (rLenN r0) x0).bind fun t11 =>
      brn (okA t7) (
        (rGet r0 t11).bind fun t12 =>
        (pBin .add false x0 (vi 1)).bind fun t13 =>
        (pBin .add false x1 (vi 1)).bind fun t14 =>
        L61c0_0 t13 t14 x2 (rSet r0 t11 (cOver t12 0 [t7]))) (
        none)) (
      (pBin .add false x1 (vi 1)).bind fun t15 =>
      L61c0_0 x0 t15 x2 r0)) (
    (pB (rCnt r0) (rRem r0 0) none).bind fun t16 =>
    (pB 0 t16 (some x0)).bind fun t17 =>
    (pB (rCnt (rOver r0 (0 + t17) (rRep (nSub t16 t17) [vi 0]))) (rRem (rOver r0 (0 + t17) (rRep (nSub t16 t17) [vi 0])) 0) (some x0)).bind fun t18 =>
    some ((A.top, [x2, A.sl 1 (List.take (nSub t18 0) (rOver r0 (0 + t17) (rRep (nSub t16 t17) [vi 0])))]))) :=
  (H_eq Try.func61 rfl).trans (by kernel_rfl)
theorem g62 (a0 a1 : A) : G 62 [a0, a1] =
  (pLoadP a1).bind fun t0 =>
  (pUn .neg a0).bind fun t1 =>
  ((G 33 [t0, t1]).bind (fin false)).bind fun t2 =>
  some ((t2, [])) :=
  (G_eq rfl Try.func62 rfl rfl).trans (by kernel_rfl)
theorem c63_0 (x0 x1 : A) (r0 : List (List A)) : C63_0 x0 x1 r0 =
  (pBin .add false x0 (vi 1)).bind fun t0 =>
  L63c0_0 x0 x1 t0 r0 :=
  (V_eq rfl Try.func63 rfl rfl).trans (by kernel_rfl)
theorem l63c0_0 (x0 x1 x2 : A) (r0 : List (List A)) : L63c0_0 x0 x1 x2 r0 =
  (pBin .lss false x2 x1).bind fun t1 =>
  (pBool t1).bind fun t2 =>
  brn t2 (
    L63c0_1 x0 x1 x2 x2 r0) (
    some ((A.top, [A.sl 1 r0]))) :=
  (H_eq Try.func63 rfl).trans (by kernel_rfl)
theorem l63c0_1 (x0 x1 x2 x3 : A) (r0 : List (List A)) : L63c0_1 x0 x1 x2 x3 r0 =
  (pBin .gtr false x3 x0).bind fun t3 =>
  (pWant t3 true).bind fun t4 =>
  (pWant t3 true).bind fun t5 =>
  (pG t3 true (some x3)).bind fun t6 =>
  (pWant t3 true).bind fun t7 =>
  brn t7 (
    (pIx (rLenN r0) t6).bind fun t8 =>
    (pG t3 true (pRowP r0 t8 0)).bind fun t9 =>
    (pWant t3 true).bind fun t10 =>
    (pG t3 true (some x3)).bind fun t11 =>
    (pG t3 true (pBin .sub false t11 (vi 1))).bind fun t12 =>
    (pWant t3 true).bind fun t13 =>
    brn t13 (
      (pIx (rLenN r0) t12).bind fun t14 =>
      (pG t3 true (pRowP r0 t14 0)).bind fun t15 =>
      (pG t3 true ((G 36 [t9, t15]).bind (fin false))).bind fun t16 =>
      (pG t3 true (pBin .lss false t16 (vi 0))).bind fun t17 =>
      (pPick t3 t17 (vb false)).bind fun t18 =>
      (pBool t18).bind fun t19 =>
      brn t19 (
        (pBin .sub false x3 (vi 1)).bind fun t20 =>
        (pBin .sub false x3 (vi 1)).bind fun t21 =>
        (pIx (rLenN r0) t21).bind fun t22 =>
        (pRowP r0 t22 0).bind fun t23 =>
        (pIx (rLenN r0) x3).bind fun t24 =>
        (pRowP r0 t24 0).bind fun t25 =>
        (pIx (rLenN r0) x3).bind fun t26 =>
        brn (okA t23) (
          (rGet r0 t26).bind fun t27 =>
          (pIx (rLenN (rSet r0 t26 (cOver t27 0 [t23]))) t20).bind fun t28 =>
          brn (okA t25) (
            (rGet (rSet r0 t26 (cOver t27 0 [t23])) t28).bind fun t29 =>
            (pBin .sub false x3 (vi 1)).bind fun t30 =>
            L63c0_1 x0 x1 x2 t30 (rSet (rSet r0 t26 (cOver t27 0 [t23])) t28 (cOver t29 0 [t25]))) (
            none)) (
          none)) (
        (pBin .add false x2 (vi 1)).bind fun t31 =>
        L63c0_0 x0 x1 t31 r0)) (
      (pG t3 true (pLoadP (A.val undef))).bind fun t32 =>
      (pG t3 true ((G 36 [t9, t32]).bind (fin false))).bind fun t33 =>
      (pG t3 true (pBin .lss false t33 (vi 0))).bind fun t34 =>
      (pPick t3 t34 (vb false)).bind fun t35 =>
      (pBool t35).bind fun t36 =>
      brn t36 (
        (pBin .sub false x3 (vi 1)).bind fun t37 =>
        (pBin .sub false x3 (vi 1)).bind fun t38 =>
        (pIx (rLenN r0) t38).bind fun t39 =>
        (pRowP r0 t39 0).bind fun t40 =>
        (pIx (rLenN r0) x3).bind fun t41 =>
        (pRowP r0 t41 0).bind fun t42 =>
        (pIx (rLenN r0) x3).bind fun t43 =>
        brn (okA t40) (
          (rGet r0 t43).bind fun t44 =>
          (pIx (rLenN (rSet r0 t43 (cOver t44 0 [t40]))) t37).bind fun t45 =>
          brn (okA t42) (
            (rGet (rSet r0 t43 (cOver t44 0 [t40])) t45).bind fun t46 =>
            (pBin .sub false x3 (vi 1)).bind fun t47 =>
            L63c0_1 x0 x1 x2 t47 (rSet (rSet r0 t43 (cOver t44 0 [t40])) t45 (cOver t46 0 [t42]))) (
            none)) (
          none)) (
        (pBin .add false x2 (vi 1)).bind fun t48 =>
        L63c0_0 x0 x1 t48 r0))) (
    (pG t3 true (pLoadP (A.val undef))).bind fun t49 =>
    (pWant t3 true).bind fun t50 =>
    (pG t3 true (some x3)).bind fun t51 =>
    (pG t3 true (pBin .sub false t51 (vi 1))).bind fun t52 =>
    (pWant t3 true).bind fun t53 =>
    brn t53 (
      (pIx (rLenN r0) t52).bind fun t54 =>
      (pG t3 true (pRowP r0 t54 0)).bind fun t55 =>
      (pG t3 true ((G 36 [t49, t55]).bind (fin false))).bind fun t56 =>
      (pG t3 true (pBin .lss false t56 (vi 0))).bind fun t57 =>
      (pPick t3 t57 (vb false)).bind fun t58 =>
      (pBool t58).bind fun t59 =>
      brn t59 (
        (pBin .sub false x3 (vi 1)).bind fun t60 =>
        (pBin .sub false x3 (vi 1)).bind fun t61 =>
        (pIx (rLenN r0) t61).bind fun t62 =>
        (pRowP r0 t62 0).bind fun t63 =>
        (pIx (rLenN r0) x3).bind fun t64 =>
        (pRowP r0 t64 0).bind fun t65 =>
        (pIx (rLenN r0) x3).bind fun t66 =>
        brn (okA t63) (
          (rGet r0 t66).bind fun t67 =>
          (pIx (rLenN (rSet r0 t66 (cOver t67 0 [t63]))) t60).bind fun t68 =>
          brn (okA t65) (
            (rGet (rSet r0 t66 (cOver t67 0 [t63])) t68).bind fun t69 =>
            (pBin .sub false x3 (vi 1)).bind fun t70 =>
            L63c0_1 x0 x1 x2 t70 (rSet (rSet r0 t66 (cOver t67 0 [t63])) t68 (cOver t69 0 [t65]))) (
            none)) (
          none)) (
        (pBin .add false x2 (vi 1)).bind fun t71 =>
        L63c0_0 x0 x1 t71 r0)) (
      (pG t3 true (pLoadP (A.val undef))).bind fun t72 =>
      (pG t3 true ((G 36 [t49, t72]).bind (fin false))).bind fun t73 =>
      (pG t3 true (pBin .lss false t73 (vi 0))).bind fun t74 =>
      (pPick t3 t74 (vb false)).bind fun t75 =>
      (pBool t75).bind fun t76 =>
      brn t76 (
        (pBin .sub false x3 (vi 1)).bind fun t77 =>
        (pBin .sub false x3 (vi 1)).bind fun t78 =>
        (pIx (rLenN r0) t78).bind fun t79 =>
        (pRowP r0 t79 0).bind fun t80 =>
        (pIx (rLenN r0) x3).bind fun t81 =>
        (pRowP r0 t81 0).bind fun t82 =>
        (pIx (rLenN r0) x3).bind fun t83 =>
        brn (okA t80) (
          (rGet r0 t83).bind fun t84 =>
          (pIx (rLenN (rSet r0 t83 (cOver t84 0 [t80]))) t77).bind fun t85 =>
          brn (okA t82) (
            (rGet (rSet r0 t83 (cOver t84 0 [t80])) t85).bind fun t86 =>
            (pBin .sub false x3 (vi 1)).bind fun t87 =>
            L63c0_1 x0 x1 x2 t87 (rSet (rSet r0 t83 (cOver t84 0 [t80])) t85 (cOver t86 0 [t82]))) (
            none)) (
          none)) (
        (pBin .add false x2 (vi 1)).bind fun t88 =>
        L63c0_0 x0 x1 t88 r0))) :=
  (H_eq Try.func63 rfl).trans (by kernel_rfl)
theorem g71 (a0 : A) : G 71 [a0] =
  (pBin .geq false a0 (A.val (.int .u32 65536))).bind fun t0 =>
  (pBool t0).bind fun t1 =>
  brn t1 (
    (pBin .shr false a0 (A.val (.int .u64 16))).bind fun t2 =>
    (pBin .geq false t2 (A.val (.int .u32 256))).bind fun t3 =>
    (pBool t3).bind fun t4 =>
    brn t4 (
      (pBin .shr false t2 (A.val (.int .u64 8))).bind fun t5 =>
      (pBin .add false (vi 16) (vi 8)).bind fun t6 =>
      (pConv .u8 t5).bind fun t7 =>
      (pIndexS (sv [0, 1, 2, 2, 3, 3, 3, 3, 4, 4, 4, 4, 4, 4, 4, 4, 5, 5, 5, 5, 5, 5, 5, 5, 5, 5, 5, 5, 5, 5, 5, 5, 6, 6, 6, 6, 6, 6, 6, 6, 6, 6, 6, 6, 6, 6, 6, 6, 6, 6, 6, 6, 6, 6, 6, 6, 6, 6, 6, 6, 6, 6, 6, 6, 7, 7, 7, 7, 7, 7, 7, 7, 7, 7, 7, 7, 7, 7, 7, 7, 7, 7, 7, 7, 7, 7, 7, 7, 7, 7, 7, 7, 7, 7, 7, 7, 7, 7, 7, 7, 7, 7, 7, 7, 7, 7, 7, 7, 7, 7, 7, 7, 7, 7, 7, 7, 7, 7, 7, 7, 7, 7, 7, 7, 7, 7, 7, 7, 8, 8, 8, 8, 8, 8, 8, 8, 8, 8, 8, 8, 8, 8, 8, 8, 8, 8, 8, 8, 8, 8, 8, 8, 8, 8, 8, 8, 8, 8, 8, 8, 8, 8, 8, 8, 8, 8, 8, 8, 8, 8, 8, 8, 8, 8, 8, 8, 8, 8, 8, 8, 8, 8, 8, 8, 8, 8, 8, 8, 8, 8, 8, 8, 8, 8, 8, 8, 8, 8, 8, 8, 8, 8, 8, 8, 8, 8, 8, 8, 8, 8, 8, 8, 8, 8, 8, 8, 8, 8, 8, 8, 8, 8, 8, 8, 8, 8, 8, 8, 8, 8, 8, 8, 8, 8, 8, 8, 8, 8, 8, 8, 8, 8, 8, 8, 8, 8, 8, 8, 8, 8, 8, 8, 8, 8, 8, 8]) t7).bind fun t8 =>
      (pConv .i64 t8).bind fun t9 =>
      (pBin .add false t6 t9).bind fun t10 =>
      some ((t10, []))) (
      (pConv .u8 t2).bind fun t11 =>
      (pIndexS (sv [0, 1, 2, 2, 3, 3, 3, 3, 4, 4, 4, 4, 4, 4, 4, 4, 5, 5, 5, 5, 5, 5, 5, 5, 5, 5, 5, 5, 5, 5, 5, 5, 6, 6, 6, 6, 6, 6, 6, 6, 6, 6, 6, 6, 6, 6, 6, 6, 6, 6, 6, 6, 6, 6, 6, 6, 6, 6, 6, 6, 6, 6, 6, 6, 7, 7, 7, 7, 7, 7, 7, 7, 7, 7, 7, 7, 7, 7, 7, 7, 7, 7, 7, 7, 7, 7, 7, 7, 7, 7, 7, 7, 7, 7, 7, 7, 7, 7, 7, 7, 7, 7, 7, 7, 7, 7, 7, 7, 7, 7, 7, 7, 7, 7, 7, 7, 7, 7, 7, 7, 7, 7, 7, 7, 7, 7, 7, 7, 8, 8, 8, 8, 8, 8, 8, 8, 8, 8, 8, 8, 8, 8, 8, 8, 8, 8, 8, 8, 8, 8, 8, 8, 8, 8, 8, 8, 8, 8, 8, 8, 8, 8, 8, 8, 8, 8, 8, 8, 8, 8, 8, 8, 8, 8, 8, 8, 8, 8, 8, 8, 8, 8, 8, 8, 8, 8, 8, 8, 8, 8, 8, 8, 8, 8, 8, 8, 8, 8, 8, 8, 8, 8, 8, 8, 8, 8, 8, 8, 8, 8, 8, 8, 8, 8, 8, 8, 8, 8, 8, 8, 8, 8, 8, 8, 8, 8, 8, 8, 8, 8, 8, 8, 8, 8, 8, 8, 8, 8, 8, 8, 8, 8, 8, 8, 8, 8, 8, 8, 8, 8, 8, 8, 8, 8, 8, 8]) t11).bind fun t12 =>
      (pConv .i64 t12).bind fun t13 =>
      (pBin .add false (vi 16) t13).bind fun t14 =>
      some ((t14, [])))) (
    (pBin .geq false a0 (A.val (.int .u32 256))).bind fun t15 =>
    (pBool t15).bind fun t16 =>
    brn t16 (
      (pBin .shr false a0 (A.val (.int .u64 8))).bind fun t17 =>
      (pBin .add false (vi 0) (vi 8)).bind fun t18 =>
      (pConv .u8 t17).bind fun t19 =>
      (pIndexS (sv [0, 1, 2, 2, 3, 3, 3, 3, 4, 4, 4, 4, 4, 4, 4, 4, 5, 5, 5, 5, 5, 5, 5, 5, 5, 5, 5, 5, 5, 5, 5, 5, 6, 6, 6, 6, 6, 6, 6, 6, 6, 6, 6, 6, 6, 6, 6, 6, 6, 6, 6, 6, 6, 6, 6, 6, 6, 6, 6, 6, 6, 6, 6, 6, 7, 7, 7, 7, 7, 7, 7, 7, 7, 7, 7, 7, 7, 7, 7, 7, 7, 7, 7, 7, 7, 7, 7, 7, 7, 7, 7, 7, 7, 7, 7, 7, 7, 7, 7, 7, 7, 7, 7, 7, 7, 7, 7, 7, 7, 7, 7, 7, 7, 7, 7, 7, 7, 7, 7, 7, 7, 7, 7, 7, 7, 7, 7, 7, 8, 8, 8, 8, 8, 8, 8, 8, 8, 8, 8, 8, 8, 8, 8, 8, 8, 8, 8, 8, 8, 8, 8, 8, 8, 8, 8, 8, 8, 8, 8, 8, 8, 8, 8, 8, 8, 8, 8, 8, 8, 8, 8, 8, 8, 8, 8, 8, 8, 8, 8, 8, 8, 8, 8, 8, 8, 8, 8, 8, 8, 8, 8, 8, 8, 8, 8, 8, 8, 8, 8, 8, 8, 8, 8, 8, 8, 8, 8, 8, 8, 8, 8, 8, 8, 8, 8, 8, 8, 8, 8, 8, 8, 8, 8, 8, 8, 8, 8, 8, 8, 8, 8, 8, 8, 8, 8, 8, 8, 8, 8, 8, 8, 8, 8, 8, 8, 8, 8, 8, 8, 8, 8, 8, 8, 8, 8, 8]) t19).bind fun t20 =>
      (pConv .i64 t20).bind fun t21 =>
      (pBin .add false t18 t21).bind fun t22 =>
      some ((t22, []))) (
      (pConv .u8 a0).bind fun t23 =>
      (pIndexS (sv [0, 1, 2, 2, 3, 3, 3, 3, 4, 4, 4, 4, 4, 4, 4, 4, 5, 5, 5, 5, 5, 5, 5, 5, 5, 5, 5, 5, 5, 5, 5, 5, 6, 6, 6, 6, 6, 6, 6, 6, 6, 6, 6, 6, 6, 6, 6, 6, 6, 6, 6, 6, 6, 6, 6, 6, 6, 6, 6, 6, 6, 6, 6, 6, 7, 7, 7, 7, 7, 7, 7, 7, 7, 7, 7, 7, 7, 7, 7, 7, 7, 7, 7, 7, 7, 7, 7, 7, 7, 7, 7, 7, 7, 7, 7, 7, 7, 7, 7, 7, 7, 7, 7, 7, 7, 7, 7, 7, 7, 7, 7, 7, 7, 7, 7, 7, 7, 7, 7, 7, 7, 7, 7, 7, 7, 7, 7, 7, 8, 8, 8, 8, 8, 8, 8, 8, 8, 8, 8, 8, 8, 8, 8, 8, 8, 8, 8, 8, 8, 8, 8, 8, 8, 8, 8, 8, 8, 8, 8, 8, 8, 8, 8, 8, 8, 8, 8, 8, 8, 8, 8, 8, 8, 8, 8, 8, 8, 8, 8, 8, 8, 8, 8, 8, 8, 8, 8, 8, 8, 8, 8, 8, 8, 8, 8, 8, 8, 8, 8, 8, 8, 8, 8, 8, 8, 8, 8, 8, 8, 8, 8, 8, 8, 8, 8, 8, 8, 8, 8, 8, 8, 8, 8, 8, 8, 8, 8, 8, 8, 8, 8, 8, 8, 8, 8, 8, 8, 8, 8, 8, 8, 8, 8, 8, 8, 8, 8, 8, 8, 8, 8, 8, 8, 8, 8, 8]) t23).bind fun t24 =>
      (pConv .i64 t24).bind fun t25 =>
      (pBin .add false (vi 0) t25).bind fun t26 =>
      some ((t26, [])))) :=
  (G_eq rfl Try.func71 rfl rfl).trans (by kernel_rfl)
theorem g72 (a0 : A) : G 72 [a0] =
  (pBin .geq false a0 (A.val (.int .u64 4294967296))).bind fun t0 =>
  (pBool t0).bind fun t1 =>
  brn t1 (
    (pBin .shr false a0 (A.val (.int .u64 32))).bind fun t2 =>
    (pBin .geq false t2 (A.val (.int .u64 65536))).bind fun t3 =>
    (pBool t3).bind fun t4 =>
    brn t4 (
      (pBin .shr false t2 (A.val (.int .u64 16))).bind fun t5 =>
      (pBin .add false (vi 32) (vi 16)).bind fun t6 =>
      (pBin .geq false t5 (A.val (.int .u64 256))).bind fun t7 =>
      (pBool t7).bind fun t8 =>
      brn t8 (
        (pBin .shr false t5 (A.val (.int .u64 8))).bind fun t9 =>
        (pBin .add false t6 (vi 8)).bind fun t10 =>
        (pConv .u8 t9).bind fun t11 =>
        (pIndexS (sv [0, 1, 2, 2, 3, 3, 3, 3, 4, 4, 4, 4, 4, 4, 4, 4, 5, 5, 5, 5, 5, 5, 5, 5, 5, 5, 5, 5, 5, 5, 5, 5, 6, 6, 6, 6, 6, 6, 6, 6, 6, 6, 6, 6, 6, 6, 6, 6, 6, 6, 6, 6, 6, 6, 6, 6, 6, 6, 6, 6, 6, 6, 6, 6, 7, 7, 7, 7, 7, 7, 7, 7, 7, 7, 7, 7, 7, 7, 7, 7, 7, 7, 7, 7, 7, 7, 7, 7, 7, 7, 7, 7, 7, 7, 7, 7, 7, 7, 7, 7, 7, 7, 7, 7, 7, 7, 7, 7, 7, 7, 7, 7, 7, 7, 7, 7, 7, 7, 7, 7, 7, 7, 7, 7, 7, 7, 7, 7, 8, 8, 8, 8, 8, 8, 8, 8, 8, 8, 8, 8, 8, 8, 8, 8, 8, 8, 8, 8, 8, 8, 8, 8, 8, 8, 8, 8, 8, 8, 8, 8, 8, 8, 8, 8, 8, 8, 8, 8, 8, 8, 8, 8, 8, 8, 8, 8, 8, 8, 8, 8, 8, 8, 8, 8, 8, 8, 8, 8, 8, 8, 8, 8, 8, 8, 8, 8, 8, 8, 8, 8, 8, 8, 8, 8, 8, 8, 8, 8, 8, 8, 8, 8, 8, 8, 8, 8, 8, 8, 8, 8, 8, 8, 8, 8, 8, 8, 8, 8, 8, 8, 8, 8, 8, 8, 8, 8, 8, 8, 8, 8, 8, 8, 8, 8, 8, 8, 8, 8, 8, 8, 8, 8, 8, 8, 8, 8]) t11).bind fun t12 =>
        (pConv .i64 t12).bind fun t13 =>
        (pBin .add false t10 t13).bind fun t14 =>
        some ((t14, []))) (
        (pConv .u8 t5).bind fun t15 =>
        (pIndexS (sv [0, 1, 2, 2, 3, 3, 3, 3, 4, 4, 4, 4, 4, 4, 4, 4, 5, 5, 5, 5, 5, 5, 5, 5, 5, 5, 5, 5, 5, 5, 5, 5, 6, 6, 6, 6, 6, 6, 6, 6, 6, 6, 6, 6, 6, 6, 6, 6, 6, 6, 6, 6, 6, 6, 6, 6, 6, 6, 6, 6, 6, 6, 6, 6, 7, 7, 7, 7, 7, 7, 7, 7, 7, 7, 7, 7, 7, 7, 7, 7, 7, 7, 7, 7, 7, 7, 7, 7, 7, 7, 7, 7, 7, 7, 7, 7, 7, 7, 7, 7, 7, 7, 7, 7, 7, 7, 7, 7, 7, 7, 7, 7, 7, 7, 7, 7, 7, 7, 7, 7, 7, 7, 7, 7, 7, 7, 7, 7, 8, 8, 8, 8, 8, 8, 8, 8, 8, 8, 8, 8, 8, 8, 8, 8, 8, 8, 8, 8, 8, 8, 8, 8, 8, 8, 8, 8, 8, 8, 8, 8, 8, 8, 8, 8, 8, 8, 8, 8, 8, 8, 8, 8, 8, 8, 8, 8, 8, 8, 8, 8, 8, 8, 8, 8, 8, 8, 8, 8, 8, 8, 8, 8, 8, 8, 8, 8, 8, 8, 8, 8, 8, 8, 8, 8, 8, 8, 8, 8, 8, 8, 8, 8, 8, 8, 8, 8, 8, 8, 8, 8, 8, 8, 8, 8, 8, 8, 8, 8, 8, 8, 8, 8, 8, 8, 8, 8, 8, 8, 8, 8, 8, 8, 8, 8, 8, 8, 8, 8, 8, 8, 8, 8, 8, 8, 8, 8]) t15).bind fun t16 =>
        (pConv .i64 t16).bind fun t17 =>
        (pBin .add false t6 t17).bind fun t18 =>
        some ((t18, [])))) (
      (pBin .geq false t2 (A.val (.int .u64 256))).bind fun t19 =>
      (pBool t19).bind fun t20 =>
      brn t20 (
        (pBin .shr false t2 (A.val (.int .u64 8))).bind fun t21 =>
        (pBin .add false (vi 32) (vi 8)).bind fun t22 =>
        (pConv .u8 t21).bind fun t23 =>
        (pIndexS (sv [0, 1, 2, 2, 3, 3, 3, 3, 4, 4, 4, 4, 4, 4, 4, 4, 5, 5, 5, 5, 5, 5, 5, 5, 5, 5, 5, 5, 5, 5, 5, 5, 6, 6, 6, 6, 6, 6, 6, 6, 6, 6, 6, 6, 6, 6, 6, 6, 6, 6, 6, 6, 6, 6, 6, 6, 6, 6, 6, 6, 6, 6, 6, 6, 7, 7, 7, 7, 7, 7, 7, 7, 7, 7, 7, 7, 7, 7, 7, 7, 7, 7, 7, 7, 7, 7, 7, 7, 7, 7, 7, 7, 7, 7, 7, 7, 7, 7, 7, 7, 7, 7, 7, 7, 7, 7, 7, 7, 7, 7, 7, 7, 7, 7, 7, 7, 7, 7, 7, 7, 7, 7, 7, 7, 7, 7, 7, 7, 8, 8, 8, 8, 8, 8, 8, 8, 8, 8, 8, 8, 8, 8, 8, 8, 8, 8, 8, 8, 8, 8, 8, 8, 8, 8, 8, 8, 8, 8, 8, 8, 8, 8, 8, 8, 8, 8, 8, 8, 8, 8, 8, 8, 8, 8, 8, 8, 8, 8, 8, 8, 8, 8, 8, 8, 8, 8, 8, 8, 8, 8, 8, 8, 8, 8, 8, 8, 8, 8, 8, 8, 8, 8, 8, 8, 8, 8, 8, 8, 8, 8, 8, 8, 8, 8, 8, 8, 8, 8, 8, 8, 8, 8, 8, 8, 8, 8, 8, 8, 8, 8, 8, 8, 8, 8, 8, 8, 8, 8, 8, 8, 8, 8, 8, 8, 8, 8, 8, 8, 8, 8, 8, 8, 8, 8, 8, 8]) t23).bind fun t24 =>
        (pConv .i64 t24).bind fun t25 =>
        (pBin .add false t22 t25).bind fun t26 =>
        some ((t26, []))) (
        (pConv .u8 t2).bind fun t27 =>
        (pIndexS (sv [0, 1, 2, 2, 3, 3, 3, 3, 4, 4, 4, 4, 4, 4, 4, 4, 5, 5, 5, 5, 5, 5, 5, 5, 5, 5, 5, 5, 5, 5, 5, 5, 6, 6, 6, 6, 6, 6, 6, 6, 6, 6, 6, 6, 6, 6, 6, 6, 6, 6, 6, 6, 6, 6, 6, 6, 6, 6, 6, 6, 6, 6, 6, 6, 7, 7, 7, 7, 7, 7, 7, 7, 7, 7, 7, 7, 7, 7, 7, 7, 7, 7, 7, 7, 7, 7, 7, 7, 7, 7, 7, 7, 7, 7, 7, 7, 7, 7, 7, 7, 7, 7, 7, 7, 7, 7, 7, 7, 7, 7, 7, 7, 7, 7, 7, 7, 7, 7, 7, 7, 7, 7, 7, 7, 7, 7, 7, 7, 8, 8, 8, 8, 8, 8, 8, 8, 8, 8, 8, 8, 8, 8, 8, 8, 8, 8, 8, 8, 8, 8, 8, 8, 8, 8, 8, 8, 8, 8, 8, 8, 8, 8, 8, 8, 8, 8, 8, 8, 8, 8, 8, 8, 8, 8, 8, 8, 8, 8, 8, 8, 8, 8, 8, 8, 8, 8, 8, 8, 8, 8, 8, 8, 8, 8, 8, 8, 8, 8, 8, 8, 8, 8, 8, 8, 8, 8, 8, 8, 8, 8, 8, 8, 8, 8, 8, 8, 8, 8, 8, 8, 8, 8, 8, 8, 8, 8, 8, 8, 8, 8, 8, 8, 8, 8, 8, 8, 8, 8, 8, 8, 8, 8, 8, 8, 8, 8, 8, 8, 8, 8, 8, 8, 8, 8, 8, 8]) t27).bind fun t28 =>
        (pConv .i64 t28).bind fun t29 =>
        (pBin .add false (vi 32) t29).bind fun t30 =>
        some ((t30, []))))) (
    (pBin .geq false a0 (A.val (.int .u64 65536))).bind fun t31 =>
    (pBool t31).bind fun t32 =>
    brn t32 (
      (pBin .shr false a0 (A.val (.int .u64 16))).bind fun t33 =>
      (pBin .add false (vi 0) (vi 16)).bind fun t34 =>
      (pBin .geq false t33 (A.val (.int .u64 256))).bind fun t35 =>
      (pBool t35).bind fun t36 =>
      brn t36 (
        (pBin .shr false t33 (A.val (.int .u64 8))).bind fun t37 =>
        (pBin .add false t34 (vi 8)).bind fun t38 =>
        (pConv .u8 t37).bind fun t39 =>
        (pIndexS (sv [0, 1, 2, 2, 3, 3, 3, 3, 4, 4, 4, 4, 4, 4, 4, 4, 5, 5, 5, 5, 5, 5, 5, 5, 5, 5, 5, 5, 5, 5, 5, 5, 6, 6, 6, 6, 6, 6, 6, 6, 6, 6, 6, 6, 6, 6, 6, 6, 6, 6, 6, 6, 6, 6, 6, 6, 6, 6, 6, 6, 6, 6, 6, 6, 7, 7, 7, 7, 7, 7, 7, 7, 7, 7, 7, 7, 7, 7, 7, 7, 7, 7, 7, 7, 7, 7, 7, 7, 7, 7, 7, 7, 7, 7, 7, 7, 7, 7, 7, 7, 7, 7, 7, 7, 7, 7, 7, 7, 7, 7, 7, 7, 7, 7, 7, 7, 7, 7, 7, 7, 7, 7, 7, 7, 7, 7, 7, 7, 8, 8, 8, 8, 8, 8, 8, 8, 8, 8, 8, 8, 8, 8, 8, 8, 8, 8, 8, 8, 8, 8, 8, 8, 8, 8, 8, 8, 8, 8, 8, 8, 8, 8, 8, 8, 8, 8, 8, 8, 8, 8, 8, 8, 8, 8, 8, 8, 8, 8, 8, 8, 8, 8, 8, 8, 8, 8, 8, 8, 8, 8, 8, 8, 8, 8, 8, 8, 8, 8, 8, 8, 8, 8, 8, 8, 8, 8, 8, 8, 8, 8, 8, 8, 8, 8, 8, 8, 8, 8, 8, 8, 8, 8, 8, 8, 8, 8, 8, 8, 8, 8, 8, 8, 8, 8, 8, 8, 8, 8, 8, 8, 8, 8, 8, 8, 8, 8, 8, 8, 8, 8, 8, 8, 8, 8, 8, 8]) t39).bind fun t40 =>
        (pConv .i64 t40).bind fun t41 =>
        (pBin .add false t38 t41).bind fun t42 =>
        some ((t42, []))) (
        (pConv .u8 t33).bind fun t43 =>
        (pIndexS (sv [0, 1, 2, 2, 3, 3, 3, 3, 4, 4, 4, 4, 4, 4, 4, 4, 5, 5, 5, 5, 5, 5, 5, 5, 5, 5, 5, 5, 5, 5, 5, 5, 6, 6, 6, 6, 6, 6, 6, 6, 6, 6, 6, 6, 6, 6, 6, 6, 6, 6, 6, 6, 6, 6, 6, 6, 6, 6, 6, 6, 6, 6, 6, 6, 7, 7, 7, 7, 7, 7, 7, 7, 7, 7, 7, 7, 7, 7, 7, 7, 7, 7, 7, 7, 7, 7, 7, 7, 7, 7, 7, 7, 7, 7, 7, 7, 7, 7, 7, 7, 7, 7, 7, 7, 7, 7, 7, 7, 7, 7, 7, 7, 7, 7, 7, 7, 7, 7, 7, 7, 7, 7, 7, 7, 7, 7, 7, 7, 8, 8, 8, 8, 8, 8, 8, 8, 8, 8, 8, 8, 8, 8, 8, 8, 8, 8, 8, 8, 8, 8, 8, 8, 8, 8, 8, 8, 8, 8, 8, 8, 8, 8, 8, 8, 8, 8, 8, 8, 8, 8, 8, 8, 8, 8, 8, 8, 8, 8, 8, 8, 8, 8, 8, 8, 8, 8, 8, 8, 8, 8, 8, 8, 8, 8, 8, 8, 8, 8, 8, 8, 8, 8, 8, 8, 8, 8, 8, 8, 8, 8, 8, 8, 8, 8, 8, 8, 8, 8, 8, 8, 8, 8, 8, 8, 8, 8, 8, 8, 8, 8, 8, 8, 8, 8, 8, 8, 8, 8, 8, 8, 8, 8, 8, 8, 8, 8, 8, 8, 8, 8, 8, 8, 8, 8, 8, 8]) t43).bind fun t44 =>
        (pConv .i64 t44).bind fun t45 =>
        (pBin .add false t34 t45).bind fun t46 =>
        some ((t46, [])))) (
      (pBin .geq false a0 (A.val (.int .u64 256))).bind fun t47 =>
      (pBool t47).bind fun t48 =>
      brn t48 (
        (pBin .shr false a0 (A.val (.int .u64 8))).bind fun t49 =>
        (pBin .add false (vi 0) (vi 8)).bind fun t50 =>
        (pConv .u8 t49).bind fun t51 =>
        (pIndexS (sv [0, 1, 2, 2, 3, 3, 3, 3, 4, 4, 4, 4, 4, 4, 4, 4, 5, 5, 5, 5, 5, 5, 5, 5, 5, 5, 5, 5, 5, 5, 5, 5, 6, 6, 6, 6, 6, 6, 6, 6, 6, 6, 6, 6, 6, 6, 6, 6, 6, 6, 6, 6, 6, 6, 6, 6, 6, 6, 6, 6, 6, 6, 6, 6, 7, 7, 7, 7, 7, 7, 7, 7, 7, 7, 7, 7, 7, 7, 7, 7, 7, 7, 7, 7, 7, 7, 7, 7, 7, 7, 7, 7, 7, 7, 7, 7, 7, 7, 7, 7, 7, 7, 7, 7, 7, 7, 7, 7, 7, 7, 7, 7, 7, 7, 7, 7, 7, 7, 7, 7, 7, 7, 7, 7, 7, 7, 7, 7, 8, 8, 8, 8, 8, 8, 8, 8, 8, 8, 8, 8, 8, 8, 8, 8, 8, 8, 8, 8, 8, 8, 8, 8, 8, 8, 8, 8, 8, 8, 8, 8, 8, 8, 8, 8, 8, 8, 8, 8, 8, 8, 8, 8, 8, 8, 8, 8, 8, 8, 8, 8, 8, 8, 8, 8, 8, 8, 8, 8, 8, 8, 8, 8, 8, 8, 8, 8, 8, 8, 8, 8, 8, 8, 8, 8, 8, 8, 8, 8, 8, 8, 8, 8, 8, 8, 8, 8, 8, 8, 8, 8, 8, 8, 8, 8, 8, 8, 8, 8, 8, 8, 8, 8, 8, 8, 8, 8, 8, 8, 8, 8, 8, 8, 8, 8, 8, 8, 8, 8, 8, 8, 8, 8, 8, 8, 8, 8]) t51).bind fun t52 =>
        (pConv .i64 t52).bind fun t53 =>
        (pBin .add false t50 t53).bind fun t54 =>
        some ((t54, []))) (
        (pConv .u8 a0).bind fun t55 =>
        (pIndexS (sv [0, 1, 2, 2, 3, 3, 3, 3, 4, 4, 4, 4, 4, 4, 4, 4, 5, 5, 5, 5, 5, 5, 5, 5, 5, 5, 5, 5, 5, 5, 5, 5, 6, 6, 6, 6, 6, 6, 6, 6, 6, 6, 6, 6, 6, 6, 6, 6, 6, 6, 6, 6, 6, 6, 6, 6, 6, 6, 6, 6, 6, 6, 6, 6, 7, 7, 7, 7, 7, 7, 7, 7, 7, 7, 7, 7, 7, 7, 7, 7, 7, 7, 7, 7, 7, 7, 7, 7, 7, 7, 7, 7, 7, 7, 7, 7, 7, 7, 7, 7, 7, 7, 7, 7, 7, 7, 7, 7, 7, 7, 7, 7, 7, 7, 7, 7, 7, 7, 7, 7, 7, 7, 7, 7, 7, 7, 7, 7, 8, 8, 8, 8, 8, 8, 8, 8, 8, 8, 8, 8, 8, 8, 8, 8, 8, 8, 8, 8, 8, 8, 8, 8, 8, 8, 8, 8, 8, 8, 8, 8, 8, 8, 8, 8, 8, 8, 8, 8, 8, 8, 8, 8, 8, 8, 8, 8, 8, 8, 8, 8, 8, 8, 8, 8, 8, 8, 8, 8, 8, 8, 8, 8, 8, 8, 8, 8, 8, 8, 8, 8, 8, 8, 8, 8, 8, 8, 8, 8, 8, 8, 8, 8, 8, 8, 8, 8, 8, 8, 8, 8, 8, 8, 8, 8, 8, 8, 8, 8, 8, 8, 8, 8, 8, 8, 8, 8, 8, 8, 8, 8, 8, 8, 8, 8, 8, 8, 8, 8, 8, 8, 8, 8, 8, 8, 8, 8]) t55).bind fun t56 =>
        (pConv .i64 t56).bind fun t57 =>
        (pBin .add false (vi 0) t57).bind fun t58 =>
        some ((t58, []))))) :=
  (G_eq rfl Try.func72 rfl rfl).trans (by kernel_rfl)
theorem g73 (a0 : A) : G 73 [a0] =
  (pBin .neq false a0 a0).bind fun t0 =>
  some ((t0, [])) :=
  (G_eq rfl Try.func73 rfl rfl).trans (by kernel_rfl)
theorem g74 (a0 a1 : A) : G 74 [a0, a1] =
  (pLenL a0).bind fun t0 =>
  L74_0 a0 a1 t0 (vi 0) :=
  (G_eq rfl Try.func74 rfl rfl).trans (by kernel_rfl)
theorem l74_0 (x0 x1 x2 x3 : A) : L74_0 x0 x1 x2 x3 =
  (pBin .lss false x3 x2).bind fun t1 =>
  (pBool t1).bind fun t2 =>
  brn t2 (
    (pIndexAddr 1 x0 x3).bind fun t3 =>
    (pLoadP t3).bind fun t4 =>
    (DX.run K (MM K) (.callc x1 [t4] false)).bind fun t5 =>
    (pBool t5).bind fun t6 =>
    brn t6 (
      some ((x3, []))) (
      (pBin .add false x3 (vi 1)).bind fun t7 =>
      L74_0 x0 x1 x2 t7)) (
    some ((vi (-1), []))) :=
  (H_eq Try.func74 rfl).trans (by kernel_rfl)
end Go.Proofs.Ytjclanocnkankaa
