/- WRITTEN BY A PROGRAM (gen.py): what functions come to, as equations. -/
import Derived.Test.YtheaeglaebimoaaK
import Derived.KernelRfl
set_option linter.unusedVariables false
namespace Go.Proofs.Ytheaeglaebimoaa
open Go Go.RowKit Go.Proofs.Ytheaeglaebimoaa.Abs
noncomputable def L14_0 (x0 x1 x2 : A) : Option Out := MM K (.head 14 [1, 1, 0, 1, 0] [V.d x0, V.d x1, V.top, V.top, V.top, V.d x2, V.top, V.top, V.top, V.top, V.top, V.top, V.top, V.top, V.top, V.top, V.top, V.top, V.top, V.top, V.top, V.top, V.top, V.top, V.top, V.top] [] none)
noncomputable def L30_0 (x0 x1 : A) (r0 : List (List A)) : Option Out := MM K (.head 30 [1, 1, 0, 1, 0] [V.d x0, V.top, V.top, V.row 0, V.d x1, V.top, V.top, V.top, V.top, V.top, V.top, V.top, V.top, V.top, V.top, V.top, V.top, V.top, V.top, V.top, V.top, V.top] [.row 1 r0] none)
noncomputable def L46_0 (x0 x1 x2 : A) : Option Out := MM K (.head 46 [1, 1, 1, 0, 1, 0] [V.d x0, V.d x1, V.top, V.top, V.top, V.d x2, V.top, V.top, V.top, V.top, V.top, V.top, V.top, V.top, V.top, V.top, V.top, V.top, V.top, V.top, V.top, V.top, V.top, V.top, V.top, V.top, V.top, V.top] [] none)
noncomputable def L47_0 (x0 x1 x2 : A) : Option Out := MM K (.head 47 [1, 1, 1, 0, 1, 0] [V.d x0, V.d x1, V.top, V.top, V.top, V.d x2, V.top, V.top, V.top, V.top, V.top, V.top, V.top, V.top, V.top, V.top, V.top, V.top, V.top, V.top, V.top, V.top, V.top, V.top, V.top, V.top, V.top] [] none)
noncomputable def L48_0 (x0 x1 x2 x3 : A) : Option Out := MM K (.head 48 [1, 1, 0, 1, 0] [V.top, V.ptr 0 0, V.top, V.d x0, V.top, V.top, V.top, V.top, V.top, V.top, V.top, V.top, V.top, V.top, V.top, V.top, V.top, V.top, V.top, V.top, V.top, V.top, V.top, V.top, V.top, V.top, V.top, V.top, V.top, V.top, V.top, V.top, V.top, V.top, V.top, V.top, V.top, V.top, V.top, V.top, V.top, V.top, V.top, V.top, V.top, V.top, V.top, V.top, V.top, V.top, V.top, V.top, V.top, V.top, V.top, V.top, V.top, V.top, V.top, V.top, V.top] [.box [V.d x1, V.d x2, V.d x3]] none)
noncomputable def L50_0 (x0 x1 x2 x3 x4 x5 x6 : A) : Option Out := MM K (.head 50 [1, 1, 1, 0, 1, 0] [V.top, V.top, V.ptr 0 0, V.ptr 1 0, V.top, V.d x0, V.d x1, V.top, V.top, V.top, V.top, V.top, V.top, V.top, V.top, V.top, V.top, V.top, V.top, V.top, V.top, V.top, V.top, V.top, V.top, V.top, V.top, V.top, V.top, V.top, V.top, V.top, V.top, V.top, V.top, V.top, V.top, V.top] [.box [V.d x2, V.d x3, V.d x4], .box [V.d x5, V.d x6]] none)
noncomputable def L51_0 (x0 x1 : A) (r0 : List (List A)) : Option Out := MM K (.head 51 [1, 1, 0, 1, 0] [V.d x0, V.top, V.top, V.row 0, V.d x1, V.top, V.top, V.top, V.top, V.top, V.top, V.top, V.top, V.top, V.top, V.top, V.top, V.top, V.top, V.top, V.top, V.top] [.row 1 r0] none)
noncomputable def L52_0 (x0 x1 : A) (r0 : List (List A)) : Option Out := MM K (.head 52 [1, 1, 0, 1, 0] [V.d x0, V.top, V.top, V.row 0, V.d x1, V.top, V.top, V.top, V.top, V.top, V.top, V.top, V.top, V.top, V.top, V.top, V.top, V.top, V.top, V.top, V.top, V.top, V.top] [.row 2 r0] none)
noncomputable def L54_0 (x0 x1 x2 x3 x4 x5 x6 : A) : Option Out := MM K (.head 54 [1, 1, 1, 0, 1, 0] [V.top, V.top, V.ptr 0 0, V.top, V.top, V.d x0, V.top, V.top, V.top, V.top, V.top, V.top, V.top, V.top, V.top, V.top, V.top, V.top, V.top, V.top, V.top, V.top, V.d x1, V.d x2, V.d x3, V.top, V.top, V.top, V.top, V.top, V.top, V.top, V.top, V.top, V.top] [.box [V.d x4, V.d x5, V.d x6]] none)
noncomputable def L55_0 (x0 x1 x2 : A) : Option Out := MM K (.head 55 [1, 1, 0, 1, 0] [V.d x0, V.d x1, V.top, V.top, V.top, V.d x2, V.top, V.top, V.top, V.top, V.top, V.top, V.top, V.top, V.top, V.top, V.top, V.top, V.top, V.top, V.top, V.top, V.top, V.top, V.top, V.top] [] none)
noncomputable def L56_0 (x0 x1 x2 : A) : Option Out := MM K (.head 56 [1, 1, 0, 1, 0] [V.d x0, V.d x1, V.top, V.top, V.top, V.d x2, V.top, V.top, V.top, V.top, V.top, V.top, V.top, V.top, V.top, V.top, V.top, V.top, V.top, V.top, V.top, V.top, V.top, V.top, V.top, V.top, V.top] [] none)
noncomputable def L58_0 (x0 x1 x2 x3 x4 : A) : Option Out := MM K (.head 58 [1, 1, 0, 1, 0] [V.top, V.top, V.ptr 0 0, V.ptr 1 0, V.top, V.d x0, V.top, V.top, V.top, V.top, V.top, V.top, V.top, V.top, V.top, V.top, V.top, V.top, V.top, V.top, V.top, V.top, V.top, V.top, V.top, V.top, V.top, V.top, V.top, V.top, V.top, V.top, V.top, V.top, V.top, V.top, V.top, V.top, V.top] [.box [V.d x1, V.d x2], .box [V.d x3, V.d x4]] none)
noncomputable def L59_0 (x0 x1 x2 x3 x4 x5 x6 x7 : A) : Option Out := MM K (.head 59 [1, 1, 0, 1, 0] [V.top, V.top, V.top, V.ptr 0 0, V.ptr 1 0, V.ptr 2 0, V.top, V.d x0, V.top, V.top, V.top, V.top, V.top, V.top, V.top, V.top, V.top, V.top, V.top, V.top, V.top, V.top, V.top, V.top, V.top, V.top, V.top, V.top, V.top, V.top, V.top, V.top, V.top, V.top, V.top, V.top, V.top, V.top, V.top, V.top, V.top, V.top, V.top, V.top, V.top, V.top, V.top, V.top, V.top, V.top, V.top, V.top, V.top, V.top, V.top, V.top, V.top, V.top, V.top, V.top, V.top, V.top, V.top, V.top, V.top, V.top, V.top, V.top, V.top, V.top, V.top, V.top, V.top, V.top, V.top, V.top, V.top, V.top, V.top, V.top, V.top, V.top, V.top, V.top] [.box [V.d x1, V.d x2, V.d x3], .box [V.d x4, V.d x5], .box [V.d x6, V.d x7]] none)
noncomputable def L59_1 (x0 x1 x2 x3 x4 x5 x6 x7 x8 : A) : Option Out := MM K (.head 59 [1, 1, 1, 1, 1, 1, 0, 1, 0] [V.top, V.top, V.top, V.ptr 0 0, V.ptr 1 0, V.ptr 2 0, V.top, V.top, V.d x0, V.d x1, V.top, V.top, V.top, V.top, V.top, V.top, V.top, V.top, V.top, V.top, V.top, V.top, V.top, V.top, V.top, V.top, V.top, V.top, V.top, V.top, V.top, V.top, V.top, V.top, V.top, V.top, V.top, V.top, V.top, V.top, V.top, V.top, V.top, V.top, V.top, V.top, V.top, V.top, V.top, V.top, V.top, V.top, V.top, V.top, V.top, V.top, V.top, V.top, V.top, V.top, V.top, V.top, V.top, V.top, V.top, V.top, V.top, V.top, V.top, V.top, V.top, V.top, V.top, V.top, V.top, V.top, V.top, V.top, V.top, V.top, V.top, V.top, V.top, V.top] [.box [V.d x2, V.d x3, V.d x4], .box [V.d x5, V.d x6], .box [V.d x7, V.d x8]] none)
noncomputable def L95_0 (x0 x1 : A) : Option Out := MM K (.head 95 [1, 1, 1, 0, 1, 0] [V.d x0, V.top, V.top, V.d x1, V.top, V.top, V.top, V.top, V.top, V.top, V.top, V.top, V.top, V.top, V.top, V.top, V.top, V.top, V.top, V.top, V.top, V.top, V.top, V.top, V.top, V.top, V.top, V.top, V.top, V.top, V.top, V.top, V.top, V.top, V.top, V.top, V.top, V.top, V.top, V.top, V.top, V.top, V.top, V.top, V.top] [] none)
noncomputable def L96_0 (x0 x1 x2 : A) : Option Out := MM K (.head 96 [1, 0, 1, 0] [V.d x0, V.d x1, V.top, V.top, V.top, V.d x2, V.top, V.top, V.top, V.top, V.top, V.top, V.top, V.top, V.top, V.top, V.top, V.top] [] none)
noncomputable def L98_0 (x0 x1 x2 x3 x4 x5 : A) : Option Out := MM K (.head 98 [1, 1, 0, 1, 0] [V.top, V.top, V.ptr 0 0, V.ptr 1 0, V.top, V.d x0, V.top, V.top, V.top, V.top, V.top, V.top, V.top, V.top, V.top, V.top, V.top, V.top, V.top, V.top, V.top, V.top, V.top, V.top, V.top, V.top, V.top, V.top, V.top, V.top, V.top, V.top] [.box [V.d x1, V.d x2, V.d x3], .box [V.d x4, V.d x5]] none)
noncomputable def L99_0 (x0 x1 : A) : Option Out := MM K (.head 99 [1, 1, 0, 1, 0] [V.d x0, V.top, V.top, V.d x1, V.top, V.top, V.top, V.top, V.top, V.top, V.top, V.top, V.top, V.top, V.top, V.top, V.top, V.top, V.top, V.top, V.top, V.top, V.top, V.top, V.top, V.top, V.top, V.top, V.top] [] none)
noncomputable def L100_0 (x0 x1 x2 x3 x4 : A) : Option Out := MM K (.head 100 [1, 0, 1, 0] [V.top, V.d x0, V.ptr 0 0, V.top, V.top, V.d x1, V.top, V.top, V.top, V.top, V.top, V.top, V.top, V.top, V.top, V.top, V.top, V.top, V.top, V.top, V.top] [.box [V.d x2, V.d x3, V.d x4]] none)
noncomputable def L101_0 (x0 x1 x2 x3 x4 x5 : A) : Option Out := MM K (.head 101 [1, 1, 0, 1, 0] [V.top, V.ptr 0 0, V.top, V.top, V.top, V.top, V.top, V.top, V.top, V.top, V.top, V.top, V.top, V.top, V.top, V.top, V.top, V.top, V.top, V.top, V.top, V.top, V.top, V.top, V.top, V.top, V.d x0, V.d x1, V.d x2, V.top, V.top, V.top, V.top, V.top, V.top, V.top, V.top, V.top, V.top, V.top, V.top, V.top, V.top, V.top, V.top, V.top, V.top, V.top, V.top, V.top, V.top, V.top, V.top, V.top, V.top, V.top] [.box [V.d x3, V.d x4, V.d x5]] none)
noncomputable def L107_0 (x0 x1 x2 x3 : A) : Option Out := MM K (.head 107 [1, 0, 1, 0] [V.d x0, V.d x1, V.top, V.top, V.top, V.top, V.top, V.d x2, V.d x3, V.top, V.top, V.top, V.top, V.top, V.top, V.top, V.top, V.top, V.top] [] none)
noncomputable def L109_0 (x0 x1 x2 x3 x4 : A) : Option Out := MM K (.head 109 [1, 0, 1, 0] [V.top, V.top, V.ptr 0 0, V.ptr 1 0, V.top, V.d x0, V.top, V.top, V.top, V.top, V.top, V.top, V.top, V.top, V.top, V.top, V.top, V.top, V.top, V.top, V.top, V.top, V.top, V.top, V.top, V.top] [.box [V.d x1, V.d x2], .box [V.d x3, V.d x4]] none)
noncomputable def L110_0 (x0 x1 x2 x3 x4 : A) : Option Out := MM K (.head 110 [1, 1, 0, 1, 0] [V.top, V.d x0, V.d x1, V.top, V.top, V.top, V.top, V.top, V.top, V.top, V.top, V.top, V.top, V.top, V.top, V.d x2, V.d x3, V.d x4, V.top, V.top, V.top, V.top, V.top, V.top, V.top, V.top, V.top, V.top, V.top, V.top, V.top, V.top] [] none)
noncomputable def L114_0 (x0 x1 x2 x3 x4 x5 x6 : A) (r0 r1 : List (List A)) : Option Out := MM K (.head 114 [1, 1, 0, 1, 0] [V.top, V.top, V.top, V.ptr 0 0, V.ptr 1 0, V.ptr 2 0, V.top, V.top, V.top, V.top, V.top, V.top, V.top, V.top, V.top, V.top, V.top, V.top, V.top, V.top, V.top, V.top, V.top, V.top, V.top, V.top, V.d x0, V.d x1, V.d x2, V.top, V.top, V.top, V.top, V.top, V.top, V.top, V.top, V.top, V.top, V.top, V.top, V.top, V.top, V.top, V.top, V.top, V.top, V.top, V.top, V.top] [.box [V.d x3, V.d x4], .box [V.d x5, V.row 3], .box [V.d x6, V.row 4], .row 2 r0, .row 2 r1] none)
noncomputable def L134_0 (x0 x1 x2 : A) : Option Out := MM K (.head 134 [1, 0, 1, 0] [V.d x0, V.top, V.top, V.top, V.top, V.d x1, V.d x2, V.top, V.top, V.top, V.top, V.top, V.top, V.top, V.top, V.top, V.top, V.top, V.top, V.top, V.top, V.top, V.top, V.top, V.top, V.top, V.top, V.top, V.top, V.top, V.top, V.top, V.top, V.top, V.top, V.top, V.top, V.top, V.top, V.top, V.top, V.top, V.top, V.top, V.top, V.top, V.top, V.top] [] none)
noncomputable def L140_0 (x0 x1 x2 : A) : Option Out := MM K (.head 140 [1, 1, 1, 0, 1, 0] [V.top, V.ptr 0 0, V.top, V.d x0, V.top, V.top, V.top, V.top, V.top, V.top, V.top, V.top, V.top, V.top, V.top, V.top, V.top, V.top, V.top, V.top, V.top, V.top, V.top, V.top, V.top, V.top, V.top, V.top, V.top, V.top, V.top, V.top, V.top, V.top, V.top] [.box [V.d x1, V.d x2]] none)
noncomputable def L142_0 (x0 x1 x2 x3 : A) : Option Out := MM K (.head 142 [1, 0, 1, 0] [V.d x0, V.d x1, V.top, V.top, V.top, V.top, V.top, V.d x2, V.d x3, V.top, V.top, V.top, V.top, V.top, V.top, V.top, V.top, V.top, V.top] [] none)
noncomputable def L162_0 (x0 x1 x2 x3 : A) : Option Out := MM K (.head 162 [1, 1, 0, 1, 0] [V.top, V.top, V.top, V.d x0, V.top, V.top, V.top, V.d x1, V.d x2, V.d x3, V.top, V.top, V.top, V.top, V.top, V.top, V.top, V.top, V.top, V.top, V.top, V.top] [] none)
noncomputable def L163_0 (x0 x1 x2 x3 : A) : Option Out := MM K (.head 163 [1, 1, 0, 1, 0] [V.top, V.top, V.top, V.d x0, V.top, V.top, V.top, V.d x1, V.d x2, V.d x3, V.top, V.top, V.top, V.top, V.top, V.top, V.top, V.top, V.top, V.top] [] none)
noncomputable def L164_0 (x0 x1 x2 : A) : Option Out := MM K (.head 164 [1, 0, 1, 0] [V.d x0, V.top, V.top, V.top, V.top, V.d x1, V.d x2, V.top, V.top, V.top, V.top, V.top, V.top, V.top, V.top, V.top, V.top, V.top, V.top, V.top, V.top, V.top, V.top, V.top, V.top, V.top, V.top, V.top, V.top, V.top, V.top, V.top, V.top, V.top, V.top, V.top, V.top, V.top, V.top, V.top] [] none)
noncomputable def L171_0 (x0 x1 x2 x3 x4 : A) : Option Out := MM K (.head 171 [1, 1, 0, 1, 0] [V.top, V.d x0, V.ptr 0 0, V.top, V.top, V.d x1, V.d x2, V.top, V.top, V.top, V.top, V.top, V.top, V.top, V.top, V.top, V.top, V.top, V.top, V.top, V.top, V.top, V.top, V.top, V.top, V.top, V.top, V.top, V.top, V.top, V.top] [.box [V.d x3, V.d x4]] none)
noncomputable def L172_0 (x0 x1 x2 x3 : A) : Option Out := MM K (.head 172 [1, 1, 0, 1, 0] [V.top, V.ptr 0 0, V.top, V.d x0, V.d x1, V.top, V.top, V.top, V.top, V.top, V.top, V.top, V.top, V.top, V.top, V.top, V.top, V.top, V.top, V.top, V.top, V.top] [.box [V.d x2, V.d x3]] none)
theorem g4 (a0 a1 : A) : G 4 [a0, a1] =
  (pCells 3 a0).bind fun t0 =>
  (pCells 2 a1).bind fun t1 =>
  ((G 19 [A.agg [cGet t0 0, cGet t0 1, cGet t0 2], vi 1048576]).bind (fin false)).bind fun t2 =>
  (pBin .lss false t2 (vi 0)).bind fun t3 =>
  (pBool t3).bind fun t4 =>
  brn t4 (
    some ((vb true, []))) (
    ((G 20 [A.agg [cGet t1 0, cGet t1 1], t2]).bind (fin false)).bind fun t5 =>
    (pBin .lss false t5 (vi 0)).bind fun t6 =>
    (pBool t6).bind fun t7 =>
    brn t7 (
      some ((vb true, []))) (
      ((G 22 [A.agg [cGet t0 0, cGet t0 1, cGet t0 2]]).bind (fin false)).bind fun t8 =>
      ((G 23 [A.agg [cGet t1 0, cGet t1 1]]).bind (fin false)).bind fun t9 =>
      ((G 21 [t8, t9]).bind (fin false)).bind fun t10 =>
      (pTup t10 0).bind fun t11 =>
      (pTup t10 1).bind fun t12 =>
      ((G 22 [A.agg [cGet t0 0, cGet t0 1, cGet t0 2]]).bind (fin false)).bind fun t13 =>
      (pCells 3 t13).bind fun t14 =>
      ((G 23 [A.agg [cGet t1 0, cGet t1 1]]).bind (fin false)).bind fun t15 =>
      (pCells 2 t15).bind fun t16 =>
      ((G 24 [A.agg [cGet t14 0, cGet t14 1, cGet t14 2], A.agg [cGet t16 0, cGet t16 1]]).bind (fin false)).bind fun t17 =>
      (pTup t17 0).bind fun t18 =>
      (pTup t17 1).bind fun t19 =>
      (pBin .neq false t18 t11).bind fun t20 =>
      (pG t20 false (some t19)).bind fun t21 =>
      (pG t20 false (some t12)).bind fun t22 =>
      (pG t20 false (pBin .neq true t21 t22)).bind fun t23 =>
      (pPick t20 (vb true) t23).bind fun t24 =>
      (pBool t24).bind fun t25 =>
      brn t25 (
        some ((vb false, []))) (
        ((G 22 [A.agg [cGet t0 0, cGet t0 1, cGet t0 2]]).bind (fin false)).bind fun t26 =>
        ((G 25 [A.agg [cGet t14 0, cGet t14 1, cGet t14 2], t26]).bind (fin false)).bind fun t27 =>
        (pUn .not t27).bind fun t28 =>
        (pBool t28).bind fun t29 =>
        brn t29 (
          some ((vb false, []))) (
          ((G 23 [A.agg [cGet t1 0, cGet t1 1]]).bind (fin false)).bind fun t30 =>
          ((G 26 [A.agg [cGet t16 0, cGet t16 1], t30]).bind (fin false)).bind fun t31 =>
          (pUn .not t31).bind fun t32 =>
          (pBool t32).bind fun t33 =>
          brn t33 (
            some ((vb false, []))) (
            some ((vb true, []))))))) :=
  (G_eq rfl Try.func4 rfl rfl).trans (by kernel_rfl)
theorem g5 (a0 a1 a2 : A) : G 5 [a0, a1, a2] =
  (pCells 3 a0).bind fun t0 =>
  (pCells 2 a1).bind fun t1 =>
  (pCells 2 a2).bind fun t2 =>
  ((G 19 [A.agg [cGet t0 0, cGet t0 1, cGet t0 2], vi 1048576]).bind (fin false)).bind fun t3 =>
  (pBin .lss false t3 (vi 0)).bind fun t4 =>
  (pBool t4).bind fun t5 =>
  brn t5 (
    some ((vb true, []))) (
    ((G 20 [A.agg [cGet t1 0, cGet t1 1], t3]).bind (fin false)).bind fun t6 =>
    (pBin .lss false t6 (vi 0)).bind fun t7 =>
    (pBool t7).bind fun t8 =>
    brn t8 (
      some ((vb true, []))) (
      ((G 20 [A.agg [cGet t2 0, cGet t2 1], t6]).bind (fin false)).bind fun t9 =>
      (pBin .lss false t9 (vi 0)).bind fun t10 =>
      (pBool t10).bind fun t11 =>
      brn t11 (
        some ((vb true, []))) (
        ((G 22 [A.agg [cGet t0 0, cGet t0 1, cGet t0 2]]).bind (fin false)).bind fun t12 =>
        ((G 23 [A.agg [cGet t1 0, cGet t1 1]]).bind (fin false)).bind fun t13 =>
        ((G 23 [A.agg [cGet t2 0, cGet t2 1]]).bind (fin false)).bind fun t14 =>
        ((G 27 [t12, t13, t14]).bind (fin false)).bind fun t15 =>
        (pTup t15 0).bind fun t16 =>
        (pTup t15 1).bind fun t17 =>
        ((G 22 [A.agg [cGet t0 0, cGet t0 1, cGet t0 2]]).bind (fin false)).bind fun t18 =>
        (pCells 3 t18).bind fun t19 =>
        ((G 23 [A.agg [cGet t1 0, cGet t1 1]]).bind (fin false)).bind fun t20 =>
        (pCells 2 t20).bind fun t21 =>
        ((G 23 [A.agg [cGet t2 0, cGet t2 1]]).bind (fin false)).bind fun t22 =>
        (pCells 2 t22).bind fun t23 =>
        ((G 28 [A.agg [cGet t19 0, cGet t19 1, cGet t19 2], A.agg [cGet t21 0, cGet t21 1], A.agg [cGet t23 0, cGet t23 1]]).bind (fin false)).bind fun t24 =>
        (pTup t24 0).bind fun t25 =>
        (pTup t24 1).bind fun t26 =>
        (pBin .neq false t25 t16).bind fun t27 =>
        (pG t27 false (some t26)).bind fun t28 =>
        (pG t27 false (some t17)).bind fun t29 =>
        (pG t27 false (pBin .neq true t28 t29)).bind fun t30 =>
        (pPick t27 (vb true) t30).bind fun t31 =>
        (pBool t31).bind fun t32 =>
        brn t32 (
          some ((vb false, []))) (
          ((G 22 [A.agg [cGet t0 0, cGet t0 1, cGet t0 2]]).bind (fin false)).bind fun t33 =>
          ((G 25 [A.agg [cGet t19 0, cGet t19 1, cGet t19 2], t33]).bind (fin false)).bind fun t34 =>
          (pUn .not t34).bind fun t35 =>
          (pBool t35).bind fun t36 =>
          brn t36 (
            some ((vb false, []))) (
            ((G 23 [A.agg [cGet t1 0, cGet t1 1]]).bind (fin false)).bind fun t37 =>
            ((G 26 [A.agg [cGet t21 0, cGet t21 1], t37]).bind (fin false)).bind fun t38 =>
            (pUn .not t38).bind fun t39 =>
            (pBool t39).bind fun t40 =>
            brn t40 (
              some ((vb false, []))) (
              ((G 23 [A.agg [cGet t2 0, cGet t2 1]]).bind (fin false)).bind fun t41 =>
              ((G 26 [A.agg [cGet t23 0, cGet t23 1], t41]).bind (fin false)).bind fun t42 =>
              (pUn .not t42).bind fun t43 =>
              (pBool t43).bind fun t44 =>
              brn t44 (
                some ((vb false, []))) (
                some ((vb true, []))))))))) :=
  (G_eq rfl Try.func5 rfl rfl).trans (by kernel_rfl)
theorem g14 (a0 a1 : A) : G 14 [a0, a1] =
  (pLenL a0).bind fun t0 =>
  (pLenL a1).bind fun t1 =>
  (pBin .neq false t0 t1).bind fun t2 =>
  (pBool t2).bind fun t3 =>
  brn t3 (
    some ((vb false, []))) (
    L14_0 a0 a1 (vi 0)) :=
  (G_eq rfl Try.func14 rfl rfl).trans (by kernel_rfl)
theorem l14_0 (x0 x1 x2 : A) : L14_0 x0 x1 x2 =
  (pLenL x0).bind fun t4 =>
  (pBin .lss false x2 t4).bind fun t5 =>
  (pBool t5).bind fun t6 =>
  brn t6 (
    (pIndexAddr 1 x0 x2).bind fun t7 =>
    (pLoadP t7).bind fun t8 =>
    (pIndexAddr 1 x1 x2).bind fun t9 =>
    (pLoadP t9).bind fun t10 =>
    (pBin .neq false t8 t10).bind fun t11 =>
    (pBool t11).bind fun t12 =>
    brn t12 (
      some ((vb false, []))) (
      (pBin .add false x2 (vi 1)).bind fun t13 =>
      L14_0 x0 x1 t13)) (
    some ((vb true, []))) :=
  (H_eq Try.func14 rfl).trans (by kernel_rfl)
theorem g19 (a0 a1 : A) : G 19 [a0, a1] =
  (pCells 3 a0).bind fun t0 =>
  ((G 46 [cGet t0 0, a1]).bind (fin false)).bind fun t1 =>
  (pBin .lss false t1 (vi 0)).bind fun t2 =>
  (pBool t2).bind fun t3 =>
  brn t3 (
    some ((vi (-1), []))) (
    ((G 38 [cGet t0 1, t1]).bind (fin false)).bind fun t4 =>
    (pBin .lss false t4 (vi 0)).bind fun t5 =>
    (pBool t5).bind fun t6 =>
    brn t6 (
      some ((vi (-1), []))) (
      some ((t4, [])))) :=
  (G_eq rfl Try.func19 rfl rfl).trans (by kernel_rfl)
theorem g20 (a0 a1 : A) : G 20 [a0, a1] =
  (pCells 2 a0).bind fun t0 =>
  (pLenS (cGet t0 0)).bind fun t1 =>
  (pBin .sub false a1 t1).bind fun t2 =>
  (pBin .lss false t2 (vi 0)).bind fun t3 =>
  (pBool t3).bind fun t4 =>
  brn t4 (
    some ((vi (-1), []))) (
    ((G 47 [cGet t0 1, t2]).bind (fin false)).bind fun t5 =>
    (pBin .lss false t5 (vi 0)).bind fun t6 =>
    (pBool t6).bind fun t7 =>
    brn t7 (
      some ((vi (-1), []))) (
      some ((t5, [])))) :=
  (G_eq rfl Try.func20 rfl rfl).trans (by kernel_rfl)
theorem g21 (a0 a1 : A) : G 21 [a0, a1] =
  (pCells 3 a0).bind fun t0 =>
  (pCells 2 a1).bind fun t1 =>
  ((G 48 [A.agg [cGet t0 0, cGet t0 1, cGet t0 2]]).bind (fin false)).bind fun t2 =>
  (pUn .not t2).bind fun t3 =>
  (pWant t3 false).bind fun t4 =>
  (pWant t3 false).bind fun t5 =>
  (pG t3 false ((G 49 [A.agg [cGet t0 0, cGet t0 1, cGet t0 2], A.agg [cGet t1 0, cGet t1 1]]).bind (fin false))).bind fun t6 =>
  (pG t3 false (pUn .not t6)).bind fun t7 =>
  (pPick t3 (vb true) t7).bind fun t8 =>
  (pBool t8).bind fun t9 =>
  brn t9 (
    some ((A.tup [vi 0, vb false], []))) (
    ((G 50 [A.agg [cGet t0 0, cGet t0 1, cGet t0 2], A.agg [cGet t1 0, cGet t1 1]]).bind (fin false)).bind fun t10 =>
    some ((A.tup [t10, vb true], []))) :=
  (G_eq rfl Try.func21 rfl rfl).trans (by kernel_rfl)
theorem g22 (a0 : A) : G 22 [a0] =
  (pCells 3 a0).bind fun t0 =>
  ((G 51 [cGet t0 0]).bind (fin false)).bind fun t1 =>
  brn (okA t1) (
    ((G 30 [cGet t0 1]).bind (fin false)).bind fun t2 =>
    brn (okA t2) (
      brn (okA (cGet t0 2)) (
        brn (okA t1) (
          brn (okA t2) (
            brn (okA (cGet t0 2)) (
              some ((A.agg [t1, t2, cGet t0 2], []))) (
              none)) (
            none)) (
          none)) (
        none)) (
      none)) (
    none) :=
  (G_eq rfl Try.func22 rfl rfl).trans (by kernel_rfl)
theorem g23 (a0 : A) : G 23 [a0] =
  (pCells 2 a0).bind fun t0 =>
  brn (okA (cGet t0 0)) (
    ((G 52 [cGet t0 1]).bind (fin false)).bind fun t1 =>
    brn (okA t1) (
      brn (okA (cGet t0 0)) (
        brn (okA t1) (
          some ((A.agg [cGet t0 0, t1], []))) (
          none)) (
        none)) (
      none)) (
    none) :=
  (G_eq rfl Try.func23 rfl rfl).trans (by kernel_rfl)
theorem g24 (a0 a1 : A) : G 24 [a0, a1] =
  (pCells 3 a0).bind fun t0 =>
  (pCells 2 a1).bind fun t1 =>
  brn (okA (cGet t1 0)) (
    brn (okA (cGet t1 1)) (
      ((G 53 [A.agg [cGet t0 0, cGet t0 1, cGet t0 2], A.sl 2 [[cGet t1 0, cGet t1 1]]]).bind (fin true)).bind fun t2 =>
      (pUn .not t2).bind fun t3 =>
      (pBool t3).bind fun t4 =>
      brn t4 (
        some ((A.tup [vi 0, vb false], []))) (
        ((G 54 [A.agg [cGet t0 0, cGet t0 1, cGet t0 2], A.agg [cGet t1 0, cGet t1 1]]).bind (fin false)).bind fun t5 =>
        some ((A.tup [t5, vb true], [])))) (
      none)) (
    none) :=
  (G_eq rfl Try.func24 rfl rfl).trans (by kernel_rfl)
theorem g25 (a0 a1 : A) : G 25 [a0, a1] =
  (pCells 3 a0).bind fun t0 =>
  (pCells 3 a1).bind fun t1 =>
  ((G 55 [cGet t0 0, cGet t1 0]).bind (fin false)).bind fun t2 =>
  (pUn .not t2).bind fun t3 =>
  (pBool t3).bind fun t4 =>
  brn t4 (
    some ((vb false, []))) (
    ((G 14 [cGet t0 1, cGet t1 1]).bind (fin false)).bind fun t5 =>
    (pUn .not t5).bind fun t6 =>
    (pBool t6).bind fun t7 =>
    brn t7 (
      some ((vb false, []))) (
      (pBin .neq false (cGet t0 2) (cGet t1 2)).bind fun t8 =>
      (pBool t8).bind fun t9 =>
      brn t9 (
        some ((vb false, []))) (
        some ((vb true, []))))) :=
  (G_eq rfl Try.func25 rfl rfl).trans (by kernel_rfl)
theorem g26 (a0 a1 : A) : G 26 [a0, a1] =
  (pCells 2 a0).bind fun t0 =>
  (pCells 2 a1).bind fun t1 =>
  (pBin .neq false (cGet t0 0) (cGet t1 0)).bind fun t2 =>
  (pBool t2).bind fun t3 =>
  brn t3 (
    some ((vb false, []))) (
    ((G 56 [cGet t0 1, cGet t1 1]).bind (fin false)).bind fun t4 =>
    (pUn .not t4).bind fun t5 =>
    (pBool t5).bind fun t6 =>
    brn t6 (
      some ((vb false, []))) (
      some ((vb true, [])))) :=
  (G_eq rfl Try.func26 rfl rfl).trans (by kernel_rfl)
theorem g27 (a0 a1 a2 : A) : G 27 [a0, a1, a2] =
  (pCells 3 a0).bind fun t0 =>
  (pCells 2 a1).bind fun t1 =>
  (pCells 2 a2).bind fun t2 =>
  ((G 48 [A.agg [cGet t0 0, cGet t0 1, cGet t0 2]]).bind (fin false)).bind fun t3 =>
  (pUn .not t3).bind fun t4 =>
  (pWant t4 false).bind fun t5 =>
  (pWant t4 false).bind fun t6 =>
  (pG t4 false ((G 49 [A.agg [cGet t0 0, cGet t0 1, cGet t0 2], A.agg [cGet t1 0, cGet t1 1]]).bind (fin false))).bind fun t7 =>
  (pG t4 false (pUn .not t7)).bind fun t8 =>
  (pPick t4 (vb true) t8).bind fun t9 =>
  (pWant t9 false).bind fun t10 =>
  (pWant t9 false).bind fun t11 =>
  (pG t9 false ((G 49 [A.agg [cGet t0 0, cGet t0 1, cGet t0 2], A.agg [cGet t2 0, cGet t2 1]]).bind (fin false))).bind fun t12 =>
  (pG t9 false (pUn .not t12)).bind fun t13 =>
  (pPick t9 (vb true) t13).bind fun t14 =>
  (pBool t14).bind fun t15 =>
  brn t15 (
    some ((A.tup [vi 0, vb false], []))) (
    ((G 58 [A.agg [cGet t1 0, cGet t1 1], A.agg [cGet t2 0, cGet t2 1]]).bind (fin false)).bind fun t16 =>
    ((G 59 [A.agg [cGet t0 0, cGet t0 1, cGet t0 2], A.agg [cGet t1 0, cGet t1 1], A.agg [cGet t2 0, cGet t2 1]]).bind (fin false)).bind fun t17 =>
    ((G 59 [A.agg [cGet t0 0, cGet t0 1, cGet t0 2], A.agg [cGet t2 0, cGet t2 1], A.agg [cGet t1 0, cGet t1 1]]).bind (fin false)).bind fun t18 =>
    ((G 57 [t16, t17, t18]).bind (fin false)).bind fun t19 =>
    some ((A.tup [t19, vb true], []))) :=
  (G_eq rfl Try.func27 rfl rfl).trans (by kernel_rfl)
theorem g28 (a0 a1 a2 : A) : G 28 [a0, a1, a2] =
  (pCells 3 a0).bind fun t0 =>
  (pCells 2 a1).bind fun t1 =>
  (pCells 2 a2).bind fun t2 =>
  brn (okA (cGet t1 0)) (
    brn (okA (cGet t1 1)) (
      brn (okA (cGet t2 0)) (
        brn (okA (cGet t2 1)) (
          ((G 53 [A.agg [cGet t0 0, cGet t0 1, cGet t0 2], A.sl 2 [[cGet t1 0, cGet t1 1], [cGet t2 0, cGet t2 1]]]).bind (fin true)).bind fun t3 =>
          (pUn .not t3).bind fun t4 =>
          (pBool t4).bind fun t5 =>
          brn t5 (
            some ((A.tup [vi 0, vb false], []))) (
            ((G 61 [A.agg [cGet t1 0, cGet t1 1], A.agg [cGet t2 0, cGet t2 1]]).bind (fin false)).bind fun t6 =>
            ((G 60 [t6, A.fn 62 [A.elt [cGet t0 0, cGet t0 1, cGet t0 2] 0, A.elt [cGet t1 0, cGet t1 1] 0, A.elt [cGet t2 0, cGet t2 1] 0], A.fn 64 [A.elt [cGet t0 0, cGet t0 1, cGet t0 2] 0, A.elt [cGet t2 0, cGet t2 1] 0, A.elt [cGet t1 0, cGet t1 1] 0]]).bind (fin true)).bind fun t7 =>
            some ((A.tup [t7, vb true], [])))) (
          none)) (
        none)) (
      none)) (
    none) :=
  (G_eq rfl Try.func28 rfl rfl).trans (by kernel_rfl)
theorem g30 (a0 : A) : G 30 [a0] =
  (pLenL a0).bind fun t0 =>
  (pMake 8 t0 t0).bind fun t1 =>
  L30_0 a0 (vi 0) (rRep t1 [vi 0]) :=
  (G_eq rfl Try.func30 rfl rfl).trans (by kernel_rfl)
theorem l30_0 (x0 x1 : A) (r0 : List (List A)) : L30_0 x0 x1 r0 =
  (pLenL x0).bind fun t2 =>
  (pBin .lss false x1 t2).bind fun t3 =>
  (pBool t3).bind fun t4 =>
  brn t4 (
    (pIndexAddr 1 x0 x1).bind fun t5 =>
    (pLoadP t5).bind fun t6 =>
    (pIx (rLenN r0) x1).bind fun t7 =>
    brn (okA t6) (
      (rGet r0 t7).bind fun t8 =>
      (pBin .add false x1 (vi 1)).bind fun t9 =>
      L30_0 x0 t9 (rSet r0 t7 (cOver t8 0 [t6]))) (
      none)) (
    some ((A.sl 1 r0, []))) :=
  (H_eq Try.func30 rfl).trans (by kernel_rfl)
theorem g38 (a0 a1 : A) : G 38 [a0, a1] =
  (pLenL a0).bind fun t0 =>
  (pBin .sub false a1 t0).bind fun t1 =>
  (pBin .lss false t1 (vi 0)).bind fun t2 =>
  (pBool t2).bind fun t3 =>
  brn t3 (
    some ((vi (-1), []))) (
    some ((t1, []))) :=
  (G_eq rfl Try.func38 rfl rfl).trans (by kernel_rfl)
theorem g46 (a0 a1 : A) : G 46 [a0, a1] =
  (pLenL a0).bind fun t0 =>
  (pBin .sub false a1 t0).bind fun t1 =>
  (pBin .lss false t1 (vi 0)).bind fun t2 =>
  (pBool t2).bind fun t3 =>
  brn t3 (
    some ((vi (-1), []))) (
    L46_0 a0 t1 (vi 0)) :=
  (G_eq rfl Try.func46 rfl rfl).trans (by kernel_rfl)
theorem l46_0 (x0 x1 x2 : A) : L46_0 x0 x1 x2 =
  (pLenL x0).bind fun t4 =>
  (pBin .lss false x2 t4).bind fun t5 =>
  (pBool t5).bind fun t6 =>
  brn t6 (
    (pIndexAddr 1 x0 x2).bind fun t7 =>
    (pLoadP t7).bind fun t8 =>
    (pLenS t8).bind fun t9 =>
    (pBin .sub false x1 t9).bind fun t10 =>
    (pBin .lss false t10 (vi 0)).bind fun t11 =>
    (pBool t11).bind fun t12 =>
    brn t12 (
      some ((vi (-1), []))) (
      (pBin .add false x2 (vi 1)).bind fun t13 =>
      L46_0 x0 t10 t13)) (
    some ((x1, []))) :=
  (H_eq Try.func46 rfl).trans (by kernel_rfl)
theorem g47 (a0 a1 : A) : G 47 [a0, a1] =
  (pLenL a0).bind fun t0 =>
  (pBin .sub false a1 t0).bind fun t1 =>
  (pBin .lss false t1 (vi 0)).bind fun t2 =>
  (pBool t2).bind fun t3 =>
  brn t3 (
    some ((vi (-1), []))) (
    L47_0 a0 t1 (vi 0)) :=
  (G_eq rfl Try.func47 rfl rfl).trans (by kernel_rfl)
theorem l47_0 (x0 x1 x2 : A) : L47_0 x0 x1 x2 =
  (pLenL x0).bind fun t4 =>
  (pBin .lss false x2 t4).bind fun t5 =>
  (pBool t5).bind fun t6 =>
  brn t6 (
    (pIndexAddr 2 x0 x2).bind fun t7 =>
    (pLoadN 2 t7).bind fun t8 =>
    ((G 20 [t8, x1]).bind (fin false)).bind fun t9 =>
    (pBin .lss false t9 (vi 0)).bind fun t10 =>
    (pBool t10).bind fun t11 =>
    brn t11 (
      some ((vi (-1), []))) (
      (pBin .add false x2 (vi 1)).bind fun t12 =>
      L47_0 x0 t9 t12)) (
    some ((x1, []))) :=
  (H_eq Try.func47 rfl).trans (by kernel_rfl)
theorem g48 (a0 : A) : G 48 [a0] =
  (pCells 3 a0).bind fun t0 =>
  (pLenL (cGet t0 0)).bind fun t1 =>
  ((G 66 [t1, vi 1, vi 12]).bind (fin false)).bind fun t2 =>
  (pUn .not t2).bind fun t3 =>
  (pWant t3 false).bind fun t4 =>
  (pG t3 false (some (cGet t0 1))).bind fun t5 =>
  (pG t3 false (pLenL t5)).bind fun t6 =>
  (pWant t3 false).bind fun t7 =>
  (pG t3 false (some (cGet t0 0))).bind fun t8 =>
  (pG t3 false (pLenL t8)).bind fun t9 =>
  (pG t3 false (pBin .neq false t6 t9)).bind fun t10 =>
  (pPick t3 (vb true) t10).bind fun t11 =>
  (pWant t11 false).bind fun t12 =>
  (pG t11 false (some (cGet t0 2))).bind fun t13 =>
  (pG t11 false ((G 66 [t13, vi 1, vi 100]).bind (fin false))).bind fun t14 =>
  (pG t11 false (pUn .not t14)).bind fun t15 =>
  (pPick t11 (vb true) t15).bind fun t16 =>
  (pBool t16).bind fun t17 =>
  brn t17 (
    some ((vb false, []))) (
    L48_0 (vi 0) (cGet t0 0) (cGet t0 1) (cGet t0 2)) :=
  (G_eq rfl Try.func48 rfl rfl).trans (by kernel_rfl)
theorem l48_0 (x0 x1 x2 x3 : A) : L48_0 x0 x1 x2 x3 =
  (pLenL x1).bind fun t18 =>
  (pBin .lss false x0 t18).bind fun t19 =>
  (pBool t19).bind fun t20 =>
  brn t20 (
    (pIndexAddr 1 x1 x0).bind fun t21 =>
    (pLoadP t21).bind fun t22 =>
    ((G 95 [t22]).bind (fin false)).bind fun t23 =>
    (pUn .not t23).bind fun t24 =>
    (pWant t24 false).bind fun t25 =>
    (pG t24 false (some x1)).bind fun t26 =>
    (pG t24 false (some x0)).bind fun t27 =>
    (pG t24 false (pSlice 1 t26 none (some t27))).bind fun t28 =>
    (pWant t24 false).bind fun t29 =>
    (pG t24 false (some x1)).bind fun t30 =>
    (pG t24 false (some x0)).bind fun t31 =>
    (pG t24 false (pIndexAddr 1 t30 t31)).bind fun t32 =>
    (pG t24 false (pLoadP t32)).bind fun t33 =>
    (pG t24 false ((G 96 [t28, t33]).bind (fin false))).bind fun t34 =>
    (pPick t24 (vb true) t34).bind fun t35 =>
    (pWant t35 false).bind fun t36 =>
    (pG t35 false (some x2)).bind fun t37 =>
    (pG t35 false (some x0)).bind fun t38 =>
    (pG t35 false (pIndexAddr 1 t37 t38)).bind fun t39 =>
    (pG t35 false (pLoadP t39)).bind fun t40 =>
    (pWant t35 false).bind fun t41 =>
    (pG t35 false (some x3)).bind fun t42 =>
    (pG t35 false ((G 66 [t40, t42, vi 100]).bind (fin false))).bind fun t43 =>
    (pG t35 false (pUn .not t43)).bind fun t44 =>
    (pPick t35 (vb true) t44).bind fun t45 =>
    (pBool t45).bind fun t46 =>
    brn t46 (
      some ((vb false, []))) (
      (pBin .add false x0 (vi 1)).bind fun t47 =>
      L48_0 t47 x1 x2 x3)) (
    some ((vb true, []))) :=
  (H_eq Try.func48 rfl).trans (by kernel_rfl)
theorem g49 (a0 a1 : A) : G 49 [a0, a1] =
  (pCells 3 a0).bind fun t0 =>
  (pCells 2 a1).bind fun t1 =>
  ((G 97 [A.agg [cGet t1 0, cGet t1 1]]).bind (fin false)).bind fun t2 =>
  (pWant t2 true).bind fun t3 =>
  (pWant t2 true).bind fun t4 =>
  (pG t2 true ((G 98 [A.agg [cGet t0 0, cGet t0 1, cGet t0 2], A.agg [cGet t1 0, cGet t1 1]]).bind (fin false))).bind fun t5 =>
  (pPick t2 t5 (vb false)).bind fun t6 =>
  some ((t6, [])) :=
  (G_eq rfl Try.func49 rfl rfl).trans (by kernel_rfl)
theorem g50 (a0 a1 : A) : G 50 [a0, a1] =
  (pCells 3 a0).bind fun t0 =>
  (pCells 2 a1).bind fun t1 =>
  ((G 99 [cGet t1 0]).bind (fin false)).bind fun t2 =>
  (pUn .not t2).bind fun t3 =>
  (pBool t3).bind fun t4 =>
  brn t4 (
    ((G 100 [A.agg [cGet t0 0, cGet t0 1, cGet t0 2], cGet t1 0]).bind (fin false)).bind fun t5 =>
    (pIndexAddr 1 (cGet t0 1) t5).bind fun t6 =>
    (pLoadP t6).bind fun t7 =>
    L50_0 t7 (vi 0) (cGet t0 0) (cGet t0 1) (cGet t0 2) (cGet t1 0) (cGet t1 1)) (
    L50_0 (cGet t0 2) (vi 0) (cGet t0 0) (cGet t0 1) (cGet t0 2) (cGet t1 0) (cGet t1 1)) :=
  (G_eq rfl Try.func50 rfl rfl).trans (by kernel_rfl)
theorem l50_0 (x0 x1 x2 x3 x4 x5 x6 : A) : L50_0 x0 x1 x2 x3 x4 x5 x6 =
  (pLenL x6).bind fun t8 =>
  (pBin .lss false x1 t8).bind fun t9 =>
  (pBool t9).bind fun t10 =>
  brn t10 (
    (pIndexAddr 2 x6 x1).bind fun t11 =>
    (pLoadN 2 t11).bind fun t12 =>
    ((G 50 [A.agg [x2, x3, x4], t12]).bind (fin false)).bind fun t13 =>
    (pBin .add false x0 t13).bind fun t14 =>
    (pBin .add false x1 (vi 1)).bind fun t15 =>
    L50_0 t14 t15 x2 x3 x4 x5 x6) (
    some ((x0, []))) :=
  (H_eq Try.func50 rfl).trans (by kernel_rfl)
theorem g51 (a0 : A) : G 51 [a0] =
  (pLenL a0).bind fun t0 =>
  (pMake 16 t0 t0).bind fun t1 =>
  L51_0 a0 (vi 0) (rRep t1 [sv []]) :=
  (G_eq rfl Try.func51 rfl rfl).trans (by kernel_rfl)
theorem l51_0 (x0 x1 : A) (r0 : List (List A)) : L51_0 x0 x1 r0 =
  (pLenL x0).bind fun t2 =>
  (pBin .lss false x1 t2).bind fun t3 =>
  (pBool t3).bind fun t4 =>
  brn t4 (
    (pIndexAddr 1 x0 x1).bind fun t5 =>
    (pLoadP t5).bind fun t6 =>
    (pIx (rLenN r0) x1).bind fun t7 =>
    brn (okA t6) (
      (rGet r0 t7).bind fun t8 =>
      (pBin .add false x1 (vi 1)).bind fun t9 =>
      L51_0 x0 t9 (rSet r0 t7 (cOver t8 0 [t6]))) (
      none)) (
    some ((A.sl 1 r0, []))) :=
  (H_eq Try.func51 rfl).trans (by kernel_rfl)
theorem g52 (a0 : A) : G 52 [a0] =
  (pLenL a0).bind fun t0 =>
  (pMake 40 t0 t0).bind fun t1 =>
  L52_0 a0 (vi 0) (rRep t1 [sv [], A.sl 2 []]) :=
  (G_eq rfl Try.func52 rfl rfl).trans (by kernel_rfl)
theorem l52_0 (x0 x1 : A) (r0 : List (List A)) : L52_0 x0 x1 r0 =
  (pLenL x0).bind fun t2 =>
  (pBin .lss false x1 t2).bind fun t3 =>
  (pBool t3).bind fun t4 =>
  brn t4 (
    (pIndexAddr 2 x0 x1).bind fun t5 =>
    (pLoadN 2 t5).bind fun t6 =>
    ((G 23 [t6]).bind (fin false)).bind fun t7 =>
    (pIx (rLenN r0) x1).bind fun t8 =>
    (pCells 2 t7).bind fun t9 =>
    (rGet r0 t8).bind fun t10 =>
    (pBin .add false x1 (vi 1)).bind fun t11 =>
    L52_0 x0 t11 (rSet r0 t8 (cOver t10 0 [cGet t9 0, cGet t9 1]))) (
    some ((A.sl 2 r0, []))) :=
  (H_eq Try.func52 rfl).trans (by kernel_rfl)
theorem g53 (a0 a1 : A) : G 53 [a0, a1] =
  (pCells 3 a0).bind fun t0 =>
  ((G 101 [A.agg [cGet t0 0, cGet t0 1, cGet t0 2]]).bind (fin false)).bind fun t1 =>
  (pG t1 true (some a1)).bind fun t2 =>
  (pWant t1 true).bind fun t3 =>
  (pG t1 true ((G 102 [t2, A.fn 103 [A.elt [cGet t0 0, cGet t0 1, cGet t0 2] 0]]).bind (fin true))).bind fun t4 =>
  (pG t1 true (pUn .not t4)).bind fun t5 =>
  (pPick t1 t5 (vb false)).bind fun t6 =>
  some ((t6, [])) :=
  (G_eq rfl Try.func53 rfl rfl).trans (by kernel_rfl)
theorem g54 (a0 a1 : A) : G 54 [a0, a1] =
  (pCells 3 a0).bind fun t0 =>
  (pCells 2 a1).bind fun t1 =>
  ((G 106 [A.agg [cGet t1 0, cGet t1 1]]).bind (fin false)).bind fun t2 =>
  (pBool t2).bind fun t3 =>
  brn t3 (
    some ((cGet t0 2, []))) (
    ((G 107 [cGet t0 0, cGet t1 0]).bind (fin false)).bind fun t4 =>
    (pIndexAddr 1 (cGet t0 1) t4).bind fun t5 =>
    (pLoadP t5).bind fun t6 =>
    (pLenL (cGet t1 1)).bind fun t7 =>
    L54_0 t6 (cGet t1 1) t7 (vi 0) (cGet t0 0) (cGet t0 1) (cGet t0 2)) :=
  (G_eq rfl Try.func54 rfl rfl).trans (by kernel_rfl)
theorem l54_0 (x0 x1 x2 x3 x4 x5 x6 : A) : L54_0 x0 x1 x2 x3 x4 x5 x6 =
  (pBin .lss false x3 x2).bind fun t8 =>
  (pBool t8).bind fun t9 =>
  brn t9 (
    (pIndexAddr 2 x1 x3).bind fun t10 =>
    (pLoadN 2 t10).bind fun t11 =>
    (pCells 2 t11).bind fun t12 =>
    ((G 54 [A.agg [x4, x5, x6], A.agg [cGet t12 0, cGet t12 1]]).bind (fin false)).bind fun t13 =>
    (pBin .add false x0 t13).bind fun t14 =>
    (pBin .add false x3 (vi 1)).bind fun t15 =>
    L54_0 t14 x1 x2 t15 x4 x5 x6) (
    some ((x0, []))) :=
  (H_eq Try.func54 rfl).trans (by kernel_rfl)
theorem g55 (a0 a1 : A) : G 55 [a0, a1] =
  (pLenL a0).bind fun t0 =>
  (pLenL a1).bind fun t1 =>
  (pBin .neq false t0 t1).bind fun t2 =>
  (pBool t2).bind fun t3 =>
  brn t3 (
    some ((vb false, []))) (
    L55_0 a0 a1 (vi 0)) :=
  (G_eq rfl Try.func55 rfl rfl).trans (by kernel_rfl)
theorem l55_0 (x0 x1 x2 : A) : L55_0 x0 x1 x2 =
  (pLenL x0).bind fun t4 =>
  (pBin .lss false x2 t4).bind fun t5 =>
  (pBool t5).bind fun t6 =>
  brn t6 (
    (pIndexAddr 1 x0 x2).bind fun t7 =>
    (pLoadP t7).bind fun t8 =>
    (pIndexAddr 1 x1 x2).bind fun t9 =>
    (pLoadP t9).bind fun t10 =>
    (pBin .neq false t8 t10).bind fun t11 =>
    (pBool t11).bind fun t12 =>
    brn t12 (
      some ((vb false, []))) (
      (pBin .add false x2 (vi 1)).bind fun t13 =>
      L55_0 x0 x1 t13)) (
    some ((vb true, []))) :=
  (H_eq Try.func55 rfl).trans (by kernel_rfl)
theorem g56 (a0 a1 : A) : G 56 [a0, a1] =
  (pLenL a0).bind fun t0 =>
  (pLenL a1).bind fun t1 =>
  (pBin .neq false t0 t1).bind fun t2 =>
  (pBool t2).bind fun t3 =>
  brn t3 (
    some ((vb false, []))) (
    L56_0 a0 a1 (vi 0)) :=
  (G_eq rfl Try.func56 rfl rfl).trans (by kernel_rfl)
theorem l56_0 (x0 x1 x2 : A) : L56_0 x0 x1 x2 =
  (pLenL x0).bind fun t4 =>
  (pBin .lss false x2 t4).bind fun t5 =>
  (pBool t5).bind fun t6 =>
  brn t6 (
    (pIndexAddr 2 x0 x2).bind fun t7 =>
    (pLoadN 2 t7).bind fun t8 =>
    (pIndexAddr 2 x1 x2).bind fun t9 =>
    (pLoadN 2 t9).bind fun t10 =>
    ((G 26 [t8, t10]).bind (fin false)).bind fun t11 =>
    (pUn .not t11).bind fun t12 =>
    (pBool t12).bind fun t13 =>
    brn t13 (
      some ((vb false, []))) (
      (pBin .add false x2 (vi 1)).bind fun t14 =>
      L56_0 x0 x1 t14)) (
    some ((vb true, []))) :=
  (H_eq Try.func56 rfl).trans (by kernel_rfl)
theorem g57 (a0 a1 a2 : A) : G 57 [a0, a1, a2] =
  (pBool a0).bind fun t0 =>
  brn t0 (
    some ((vi 1, []))) (
    (pBool a1).bind fun t1 =>
    brn t1 (
      some ((vi 2, []))) (
      (pBool a2).bind fun t2 =>
      brn t2 (
        some ((vi 3, []))) (
        some ((vi 0, []))))) :=
  (G_eq rfl Try.func57 rfl rfl).trans (by kernel_rfl)
theorem g58 (a0 a1 : A) : G 58 [a0, a1] =
  (pCells 2 a0).bind fun t0 =>
  (pCells 2 a1).bind fun t1 =>
  (pBin .neq false (cGet t0 0) (cGet t1 0)).bind fun t2 =>
  (pWant t2 false).bind fun t3 =>
  (pG t2 false (some (cGet t0 1))).bind fun t4 =>
  (pG t2 false (pLenL t4)).bind fun t5 =>
  (pWant t2 false).bind fun t6 =>
  (pG t2 false (some (cGet t1 1))).bind fun t7 =>
  (pG t2 false (pLenL t7)).bind fun t8 =>
  (pG t2 false (pBin .neq false t5 t8)).bind fun t9 =>
  (pPick t2 (vb true) t9).bind fun t10 =>
  (pBool t10).bind fun t11 =>
  brn t11 (
    some ((vb false, []))) (
    L58_0 (vi 0) (cGet t0 0) (cGet t0 1) (cGet t1 0) (cGet t1 1)) :=
  (G_eq rfl Try.func58 rfl rfl).trans (by kernel_rfl)
theorem l58_0 (x0 x1 x2 x3 x4 : A) : L58_0 x0 x1 x2 x3 x4 =
  (pLenL x2).bind fun t12 =>
  (pBin .lss false x0 t12).bind fun t13 =>
  (pBool t13).bind fun t14 =>
  brn t14 (
    (pIndexAddr 2 x2 x0).bind fun t15 =>
    (pLoadN 2 t15).bind fun t16 =>
    (pIndexAddr 2 x4 x0).bind fun t17 =>
    (pLoadN 2 t17).bind fun t18 =>
    ((G 58 [t16, t18]).bind (fin false)).bind fun t19 =>
    (pUn .not t19).bind fun t20 =>
    (pBool t20).bind fun t21 =>
    brn t21 (
      some ((vb false, []))) (
      (pBin .add false x0 (vi 1)).bind fun t22 =>
      L58_0 t22 x1 x2 x3 x4)) (
    some ((vb true, []))) :=
  (H_eq Try.func58 rfl).trans (by kernel_rfl)
theorem g59 (a0 a1 a2 : A) : G 59 [a0, a1, a2] =
  (pCells 3 a0).bind fun t0 =>
  (pCells 2 a1).bind fun t1 =>
  (pCells 2 a2).bind fun t2 =>
  ((G 99 [cGet t1 0]).bind (fin false)).bind fun t3 =>
  (pBool t3).bind fun t4 =>
  brn t4 (
    some ((vb false, []))) (
    L59_0 (vi 0) (cGet t0 0) (cGet t0 1) (cGet t0 2) (cGet t1 0) (cGet t1 1) (cGet t2 0) (cGet t2 1)) :=
  (G_eq rfl Try.func59 rfl rfl).trans (by kernel_rfl)
theorem l59_0 (x0 x1 x2 x3 x4 x5 x6 x7 : A) : L59_0 x0 x1 x2 x3 x4 x5 x6 x7 =
  (pLenL x5).bind fun t5 =>
  (pBin .lss false x0 t5).bind fun t6 =>
  (pBool t6).bind fun t7 =>
  brn t7 (
    (pIndexAddr 2 x5 x0).bind fun t8 =>
    (pLoadN 2 t8).bind fun t9 =>
    ((G 58 [t9, A.agg [x6, x7]]).bind (fin false)).bind fun t10 =>
    (pWant t10 false).bind fun t11 =>
    (pWant t10 false).bind fun t12 =>
    (pG t10 false (some x5)).bind fun t13 =>
    (pG t10 false (some x0)).bind fun t14 =>
    (pG t10 false (pIndexAddr 2 t13 t14)).bind fun t15 =>
    (pG t10 false (pLoadN 2 t15)).bind fun t16 =>
    (pWant t10 false).bind fun t17 =>
    (pG t10 false ((G 59 [A.agg [x1, x2, x3], t16, A.agg [x6, x7]]).bind (fin false))).bind fun t18 =>
    (pPick t10 (vb true) t18).bind fun t19 =>
    (pBool t19).bind fun t20 =>
    brn t20 (
      some ((vb true, []))) (
      (pBin .add false x0 (vi 1)).bind fun t21 =>
      L59_0 t21 x1 x2 x3 x4 x5 x6 x7)) (
    ((G 99 [x6]).bind (fin false)).bind fun t22 =>
    (pBool t22).bind fun t23 =>
    brn t23 (
      some ((vb false, []))) (
      ((G 108 [A.agg [x1, x2, x3], A.agg [x4, x5], A.agg [x6, x7]]).bind (fin false)).bind fun t24 =>
      (pBin .lss false t24 (vi 0)).bind fun t25 =>
      (pBool t25).bind fun t26 =>
      brn t26 (
        some ((vb false, []))) (
        L59_1 t24 (vi 0) x1 x2 x3 x4 x5 x6 x7))) :=
  (H_eq Try.func59 rfl).trans (by kernel_rfl)
theorem l59_1 (x0 x1 x2 x3 x4 x5 x6 x7 x8 : A) : L59_1 x0 x1 x2 x3 x4 x5 x6 x7 x8 =
  (pLenL x8).bind fun t27 =>
  (pBin .lss false x1 t27).bind fun t28 =>
  (pBool t28).bind fun t29 =>
  brn t29 (
    (pIndexAddr 2 x8 x1).bind fun t30 =>
    (pLoadN 2 t30).bind fun t31 =>
    ((G 59 [A.agg [x2, x3, x4], A.agg [x5, x6], t31]).bind (fin false)).bind fun t32 =>
    (pUn .not t32).bind fun t33 =>
    (pBool t33).bind fun t34 =>
    brn t34 (
      some ((vb false, []))) (
      (pBin .add false x1 (vi 1)).bind fun t35 =>
      L59_1 x0 t35 x2 x3 x4 x5 x6 x7 x8)) (
    (pBin .gtr false x0 (vi 0)).bind fun t36 =>
    (pBool t36).bind fun t37 =>
    brn t37 (
      some ((vb true, []))) (
      ((G 109 [A.agg [x5, x6], A.agg [x7, x8]]).bind (fin false)).bind fun t38 =>
      (pBin .geq false t38 (vi 0)).bind fun t39 =>
      (pWant t39 true).bind fun t40 =>
      (pWant t39 true).bind fun t41 =>
      (pG t39 true (some x6)).bind fun t42 =>
      (pG t39 true (some t38)).bind fun t43 =>
      (pG t39 true (pIndexAddr 2 t42 t43)).bind fun t44 =>
      (pG t39 true (pLoadN 2 t44)).bind fun t45 =>
      (pWant t39 true).bind fun t46 =>
      (pG t39 true (some x8)).bind fun t47 =>
      (pG t39 true (some t38)).bind fun t48 =>
      (pG t39 true (pIndexAddr 2 t47 t48)).bind fun t49 =>
      (pG t39 true (pLoadN 2 t49)).bind fun t50 =>
      (pG t39 true ((G 59 [A.agg [x2, x3, x4], t45, t50]).bind (fin false))).bind fun t51 =>
      (pPick t39 t51 (vb false)).bind fun t52 =>
      some ((t52, [])))) :=
  (H_eq Try.func59 rfl).trans (by kernel_rfl)
theorem g60 (a0 a1 a2 : A) : G 60 [a0, a1, a2] =
  (pBool a0).bind fun t0 =>
  brn t0 (
    some ((vi 1, []))) (
    (DX.run K (MM K) (.callc a1 [] false)).bind fun t1 =>
    (pBool t1).bind fun t2 =>
    brn t2 (
      some ((vi 2, []))) (
      (DX.run K (MM K) (.callc a2 [] false)).bind fun t3 =>
      (pBool t3).bind fun t4 =>
      brn t4 (
        some ((vi 3, []))) (
        some ((vi 0, []))))) :=
  (G_eq rfl Try.func60 rfl rfl).trans (by kernel_rfl)
theorem g61 (a0 a1 : A) : G 61 [a0, a1] =
  (pCells 2 a0).bind fun t0 =>
  (pCells 2 a1).bind fun t1 =>
  (pBin .eql false (cGet t0 0) (cGet t1 0)).bind fun t2 =>
  (pWant t2 true).bind fun t3 =>
  (pG t2 true (some (cGet t0 1))).bind fun t4 =>
  (pWant t2 true).bind fun t5 =>
  (pG t2 true (some (cGet t1 1))).bind fun t6 =>
  (pG t2 true ((G 110 [t4, t6, A.fn 61 []]).bind (fin false))).bind fun t7 =>
  (pPick t2 t7 (vb false)).bind fun t8 =>
  some ((t8, [])) :=
  (G_eq rfl Try.func61 rfl rfl).trans (by kernel_rfl)
theorem g62 (a0 a1 a2 : A) : G 62 [a0, a1, a2] =
  (pLoadN 3 a0).bind fun t0 =>
  (pLoadN 2 a1).bind fun t1 =>
  (pLoadN 2 a2).bind fun t2 =>
  ((G 63 [t0, t1, t2]).bind (fin false)).bind fun t3 =>
  some ((t3, [])) :=
  (G_eq rfl Try.func62 rfl rfl).trans (by kernel_rfl)
theorem g63 (a0 a1 a2 : A) : G 63 [a0, a1, a2] =
  (pCells 3 a0).bind fun t0 =>
  (pCells 2 a1).bind fun t1 =>
  (pCells 2 a2).bind fun t2 =>
  ((G 106 [A.agg [cGet t1 0, cGet t1 1]]).bind (fin false)).bind fun t3 =>
  (pBool t3).bind fun t4 =>
  brn t4 (
    some ((vb false, []))) (
    ((G 102 [cGet t1 1, A.fn 111 [A.elt [cGet t2 0, cGet t2 1] 0, A.elt [cGet t0 0, cGet t0 1, cGet t0 2] 0]]).bind (fin true)).bind fun t5 =>
    (pBool t5).bind fun t6 =>
    brn t6 (
      some ((vb true, []))) (
      ((G 106 [A.agg [cGet t2 0, cGet t2 1]]).bind (fin false)).bind fun t7 =>
      (pWant t7 false).bind fun t8 =>
      (pG t7 false (some (cGet t2 1))).bind fun t9 =>
      (pWant t7 false).bind fun t10 =>
      (pG t7 false ((G 102 [t9, A.fn 112 [A.elt [cGet t0 0, cGet t0 1, cGet t0 2] 0, A.elt [cGet t1 0, cGet t1 1] 0]]).bind (fin true))).bind fun t11 =>
      (pPick t7 (vb true) t11).bind fun t12 =>
      (pBool t12).bind fun t13 =>
      brn t13 (
        some ((vb false, []))) (
        ((G 113 [A.agg [cGet t0 0, cGet t0 1, cGet t0 2], A.agg [cGet t2 0, cGet t2 1], A.agg [cGet t1 0, cGet t1 1]]).bind (fin false)).bind fun t14 =>
        (pBool t14).bind fun t15 =>
        brn t15 (
          some ((vb true, []))) (
          ((G 114 [A.agg [cGet t1 0, cGet t1 1], A.agg [cGet t2 0, cGet t2 1]]).bind (fin false)).bind fun t16 =>
          (pTup t16 0).bind fun t17 =>
          (pTup t16 1).bind fun t18 =>
          (pTup t16 2).bind fun t19 =>
          (pCells 2 t17).bind fun t20 =>
          (pCells 2 t18).bind fun t21 =>
          (pWant t19 true).bind fun t22 =>
          (pWant t19 true).bind fun t23 =>
          (pWant t19 true).bind fun t24 =>
          (pG t19 true ((G 63 [A.agg [cGet t0 0, cGet t0 1, cGet t0 2], A.agg [cGet t20 0, cGet t20 1], A.agg [cGet t21 0, cGet t21 1]]).bind (fin false))).bind fun t25 =>
          (pPick t19 t25 (vb false)).bind fun t26 =>
          some ((t26, [])))))) :=
  (G_eq rfl Try.func63 rfl rfl).trans (by kernel_rfl)
theorem g64 (a0 a1 a2 : A) : G 64 [a0, a1, a2] =
  (pLoadN 3 a0).bind fun t0 =>
  (pLoadN 2 a1).bind fun t1 =>
  (pLoadN 2 a2).bind fun t2 =>
  ((G 63 [t0, t1, t2]).bind (fin false)).bind fun t3 =>
  some ((t3, [])) :=
  (G_eq rfl Try.func64 rfl rfl).trans (by kernel_rfl)
theorem g66 (a0 a1 a2 : A) : G 66 [a0, a1, a2] =
  (pBin .geq false a0 a1).bind fun t0 =>
  (pG t0 true (some a0)).bind fun t1 =>
  (pG t0 true (some a2)).bind fun t2 =>
  (pG t0 true (pBin .leq false t1 t2)).bind fun t3 =>
  (pPick t0 t3 (vb false)).bind fun t4 =>
  some ((t4, [])) :=
  (G_eq rfl Try.func66 rfl rfl).trans (by kernel_rfl)
theorem g89 (a0 a1 : A) : G 89 [a0, a1] =
  (pBin .gtr false a0 a1).bind fun t0 =>
  (pBool t0).bind fun t1 =>
  brn t1 (
    some ((a0, []))) (
    some ((a1, []))) :=
  (G_eq rfl Try.func89 rfl rfl).trans (by kernel_rfl)
theorem g95 (a0 : A) : G 95 [a0] =
  (pLenS a0).bind fun t0 =>
  ((G 66 [t0, vi 1, vi 6]).bind (fin false)).bind fun t1 =>
  (pUn .not t1).bind fun t2 =>
  (pG t2 false (some a0)).bind fun t3 =>
  (pG t2 false (pIndexS t3 (vi 0))).bind fun t4 =>
  (pG t2 false (pBin .lss false t4 (vy 97))).bind fun t5 =>
  (pPick t2 (vb true) t5).bind fun t6 =>
  (pG t6 false (some a0)).bind fun t7 =>
  (pG t6 false (pIndexS t7 (vi 0))).bind fun t8 =>
  (pG t6 false (pBin .gtr false t8 (vy 122))).bind fun t9 =>
  (pPick t6 (vb true) t9).bind fun t10 =>
  (pBool t10).bind fun t11 =>
  brn t11 (
    some ((vb false, []))) (
    (pBin .eql false a0 (sv [116, 114, 117, 101])).bind fun t12 =>
    (pBool t12).bind fun t13 =>
    brn t13 (
      (pBool t12).bind fun t14 =>
      brn t14 (
        some ((vb false, []))) (
        L95_0 a0 (vi 1))) (
      (pBin .eql false a0 (sv [102, 97, 108, 115, 101])).bind fun t15 =>
      (pBool t15).bind fun t16 =>
      brn t16 (
        (pBool t15).bind fun t17 =>
        brn t17 (
          some ((vb false, []))) (
          L95_0 a0 (vi 1))) (
        (pBin .eql false a0 (sv [116, 114, 117, 116, 104])).bind fun t18 =>
        (pBool t18).bind fun t19 =>
        brn t19 (
          (pBool t18).bind fun t20 =>
          brn t20 (
            some ((vb false, []))) (
            L95_0 a0 (vi 1))) (
          (pBin .eql false a0 (sv [98, 111, 116, 104])).bind fun t21 =>
          (pBool t21).bind fun t22 =>
          brn t22 (
            (pBool t21).bind fun t23 =>
            brn t23 (
              some ((vb false, []))) (
              L95_0 a0 (vi 1))) (
            (pBin .eql false a0 (sv [101, 105, 116, 104, 101, 114])).bind fun t24 =>
            (pBool t24).bind fun t25 =>
            brn t25 (
              (pBool t24).bind fun t26 =>
              brn t26 (
                some ((vb false, []))) (
                L95_0 a0 (vi 1))) (
              (pBin .eql false a0 (sv [105, 102])).bind fun t27 =>
              (pBool t27).bind fun t28 =>
              brn t28 (
                (pBool t27).bind fun t29 =>
                brn t29 (
                  some ((vb false, []))) (
                  L95_0 a0 (vi 1))) (
                (pBin .eql false a0 (sv [97, 108, 108])).bind fun t30 =>
                (pBool t30).bind fun t31 =>
                brn t31 (
                  (pBool t30).bind fun t32 =>
                  brn t32 (
                    some ((vb false, []))) (
                    L95_0 a0 (vi 1))) (
                  (pBin .eql false a0 (sv [115, 111, 109, 101])).bind fun t33 =>
                  (pBool t33).bind fun t34 =>
                  brn t34 (
                    some ((vb false, []))) (
                    L95_0 a0 (vi 1)))))))))) :=
  (G_eq rfl Try.func95 rfl rfl).trans (by kernel_rfl)
theorem l95_0 (x0 x1 : A) : L95_0 x0 x1 =
  (pLenS x0).bind fun t35 =>
  (pBin .lss false x1 t35).bind fun t36 =>
  (pBool t36).bind fun t37 =>
  brn t37 (
    (pIndexS x0 x1).bind fun t38 =>
    ((G 138 [t38]).bind (fin false)).bind fun t39 =>
    (pUn .not t39).bind fun t40 =>
    (pG t40 true (some x0)).bind fun t41 =>
    (pG t40 true (some x1)).bind fun t42 =>
    (pG t40 true (pIndexS t41 t42)).bind fun t43 =>
    (pG t40 true (pBin .neq false t43 (vy 95))).bind fun t44 =>
    (pPick t40 t44 (vb false)).bind fun t45 =>
    (pBool t45).bind fun t46 =>
    brn t46 (
      some ((vb false, []))) (
      (pBin .add false x1 (vi 1)).bind fun t47 =>
      L95_0 x0 t47)) (
    some ((vb true, []))) :=
  (H_eq Try.func95 rfl).trans (by kernel_rfl)
theorem g96 (a0 a1 : A) : G 96 [a0, a1] =
  L96_0 a0 a1 (vi 0) :=
  (G_eq rfl Try.func96 rfl rfl).trans (by kernel_rfl)
theorem l96_0 (x0 x1 x2 : A) : L96_0 x0 x1 x2 =
  (pLenL x0).bind fun t0 =>
  (pBin .lss false x2 t0).bind fun t1 =>
  (pBool t1).bind fun t2 =>
  brn t2 (
    (pIndexAddr 1 x0 x2).bind fun t3 =>
    (pLoadP t3).bind fun t4 =>
    (pBin .eql false t4 x1).bind fun t5 =>
    (pBool t5).bind fun t6 =>
    brn t6 (
      some ((vb true, []))) (
      (pBin .add false x2 (vi 1)).bind fun t7 =>
      L96_0 x0 x1 t7)) (
    some ((vb false, []))) :=
  (H_eq Try.func96 rfl).trans (by kernel_rfl)
theorem g97 (a0 : A) : G 97 [a0] =
  (pCells 2 a0).bind fun t0 =>
  ((G 139 [A.agg [cGet t0 0, cGet t0 1]]).bind (fin false)).bind fun t1 =>
  (pWant t1 true).bind fun t2 =>
  (pG t1 true ((G 140 [A.agg [cGet t0 0, cGet t0 1]]).bind (fin false))).bind fun t3 =>
  (pPick t1 t3 (vb false)).bind fun t4 =>
  some ((t4, [])) :=
  (G_eq rfl Try.func97 rfl rfl).trans (by kernel_rfl)
theorem g98 (a0 a1 : A) : G 98 [a0, a1] =
  (pCells 3 a0).bind fun t0 =>
  (pCells 2 a1).bind fun t1 =>
  ((G 99 [cGet t1 0]).bind (fin false)).bind fun t2 =>
  (pUn .not t2).bind fun t3 =>
  (pWant t3 true).bind fun t4 =>
  (pWant t3 true).bind fun t5 =>
  (pG t3 true (some (cGet t1 0))).bind fun t6 =>
  (pG t3 true ((G 100 [A.agg [cGet t0 0, cGet t0 1, cGet t0 2], t6]).bind (fin false))).bind fun t7 =>
  (pG t3 true (pBin .lss false t7 (vi 0))).bind fun t8 =>
  (pPick t3 t8 (vb false)).bind fun t9 =>
  (pBool t9).bind fun t10 =>
  brn t10 (
    some ((vb false, []))) (
    L98_0 (vi 0) (cGet t0 0) (cGet t0 1) (cGet t0 2) (cGet t1 0) (cGet t1 1)) :=
  (G_eq rfl Try.func98 rfl rfl).trans (by kernel_rfl)
theorem l98_0 (x0 x1 x2 x3 x4 x5 : A) : L98_0 x0 x1 x2 x3 x4 x5 =
  (pLenL x5).bind fun t11 =>
  (pBin .lss false x0 t11).bind fun t12 =>
  (pBool t12).bind fun t13 =>
  brn t13 (
    (pIndexAddr 2 x5 x0).bind fun t14 =>
    (pLoadN 2 t14).bind fun t15 =>
    ((G 98 [A.agg [x1, x2, x3], t15]).bind (fin false)).bind fun t16 =>
    (pUn .not t16).bind fun t17 =>
    (pBool t17).bind fun t18 =>
    brn t18 (
      some ((vb false, []))) (
      (pBin .add false x0 (vi 1)).bind fun t19 =>
      L98_0 t19 x1 x2 x3 x4 x5)) (
    some ((vb true, []))) :=
  (H_eq Try.func98 rfl).trans (by kernel_rfl)
theorem g99 (a0 : A) : G 99 [a0] =
  (pLenS a0).bind fun t0 =>
  ((G 66 [t0, vi 1, vi 4]).bind (fin false)).bind fun t1 =>
  (pUn .not t1).bind fun t2 =>
  (pG t2 false (some a0)).bind fun t3 =>
  (pG t2 false (pIndexS t3 (vi 0))).bind fun t4 =>
  (pG t2 false (pBin .lss false t4 (vy 65))).bind fun t5 =>
  (pPick t2 (vb true) t5).bind fun t6 =>
  (pG t6 false (some a0)).bind fun t7 =>
  (pG t6 false (pIndexS t7 (vi 0))).bind fun t8 =>
  (pG t6 false (pBin .gtr false t8 (vy 90))).bind fun t9 =>
  (pPick t6 (vb true) t9).bind fun t10 =>
  (pBool t10).bind fun t11 =>
  brn t11 (
    some ((vb false, []))) (
    L99_0 a0 (vi 1)) :=
  (G_eq rfl Try.func99 rfl rfl).trans (by kernel_rfl)
theorem l99_0 (x0 x1 : A) : L99_0 x0 x1 =
  (pLenS x0).bind fun t12 =>
  (pBin .lss false x1 t12).bind fun t13 =>
  (pBool t13).bind fun t14 =>
  brn t14 (
    (pIndexS x0 x1).bind fun t15 =>
    ((G 138 [t15]).bind (fin false)).bind fun t16 =>
    (pUn .not t16).bind fun t17 =>
    (pBool t17).bind fun t18 =>
    brn t18 (
      some ((vb false, []))) (
      (pBin .add false x1 (vi 1)).bind fun t19 =>
      L99_0 x0 t19)) (
    some ((vb true, []))) :=
  (H_eq Try.func99 rfl).trans (by kernel_rfl)
theorem g100 (a0 a1 : A) : G 100 [a0, a1] =
  (pCells 3 a0).bind fun t0 =>
  L100_0 a1 (vi 0) (cGet t0 0) (cGet t0 1) (cGet t0 2) :=
  (G_eq rfl Try.func100 rfl rfl).trans (by kernel_rfl)
theorem l100_0 (x0 x1 x2 x3 x4 : A) : L100_0 x0 x1 x2 x3 x4 =
  (pLenL x2).bind fun t1 =>
  (pBin .lss false x1 t1).bind fun t2 =>
  (pBool t2).bind fun t3 =>
  brn t3 (
    (pIndexAddr 1 x2 x1).bind fun t4 =>
    (pLoadP t4).bind fun t5 =>
    (pBin .eql false t5 x0).bind fun t6 =>
    (pBool t6).bind fun t7 =>
    brn t7 (
      some ((x1, []))) (
      (pBin .add false x1 (vi 1)).bind fun t8 =>
      L100_0 x0 t8 x2 x3 x4)) (
    some ((vi (-1), []))) :=
  (H_eq Try.func100 rfl).trans (by kernel_rfl)
theorem g101 (a0 : A) : G 101 [a0] =
  (pCells 3 a0).bind fun t0 =>
  (pLenL (cGet t0 0)).bind fun t1 =>
  ((G 116 [t1, vi 1, vi 12]).bind (fin false)).bind fun t2 =>
  (pUn .not t2).bind fun t3 =>
  (pWant t3 false).bind fun t4 =>
  (pG t3 false (some (cGet t0 1))).bind fun t5 =>
  (pG t3 false (pLenL t5)).bind fun t6 =>
  (pWant t3 false).bind fun t7 =>
  (pG t3 false (some (cGet t0 0))).bind fun t8 =>
  (pG t3 false (pLenL t8)).bind fun t9 =>
  (pG t3 false (pBin .neq false t6 t9)).bind fun t10 =>
  (pPick t3 (vb true) t10).bind fun t11 =>
  (pWant t11 false).bind fun t12 =>
  (pG t11 false (some (cGet t0 2))).bind fun t13 =>
  (pG t11 false ((G 116 [t13, vi 1, vi 100]).bind (fin false))).bind fun t14 =>
  (pG t11 false (pUn .not t14)).bind fun t15 =>
  (pPick t11 (vb true) t15).bind fun t16 =>
  (pBool t16).bind fun t17 =>
  brn t17 (
    some ((vb false, []))) (
    (pLenL (cGet t0 0)).bind fun t18 =>
    L101_0 (cGet t0 0) t18 (vi 0) (cGet t0 0) (cGet t0 1) (cGet t0 2)) :=
  (G_eq rfl Try.func101 rfl rfl).trans (by kernel_rfl)
theorem l101_0 (x0 x1 x2 x3 x4 x5 : A) : L101_0 x0 x1 x2 x3 x4 x5 =
  (pBin .lss false x2 x1).bind fun t19 =>
  (pBool t19).bind fun t20 =>
  brn t20 (
    (pIndexAddr 1 x0 x2).bind fun t21 =>
    (pLoadP t21).bind fun t22 =>
    ((G 134 [t22]).bind (fin false)).bind fun t23 =>
    (pUn .not t23).bind fun t24 =>
    (pWant t24 false).bind fun t25 =>
    (pG t24 false (some x3)).bind fun t26 =>
    (pG t24 false (some x2)).bind fun t27 =>
    (pG t24 false (pSlice 1 t26 none (some t27))).bind fun t28 =>
    (pG t24 false (some t22)).bind fun t29 =>
    (pG t24 false ((G 141 [t28, t29]).bind (fin false))).bind fun t30 =>
    (pPick t24 (vb true) t30).bind fun t31 =>
    (pWant t31 false).bind fun t32 =>
    (pG t31 false (some x4)).bind fun t33 =>
    (pG t31 false (some x2)).bind fun t34 =>
    (pG t31 false (pIndexAddr 1 t33 t34)).bind fun t35 =>
    (pG t31 false (pLoadP t35)).bind fun t36 =>
    (pWant t31 false).bind fun t37 =>
    (pG t31 false (some x5)).bind fun t38 =>
    (pG t31 false ((G 116 [t36, t38, vi 100]).bind (fin false))).bind fun t39 =>
    (pG t31 false (pUn .not t39)).bind fun t40 =>
    (pPick t31 (vb true) t40).bind fun t41 =>
    (pBool t41).bind fun t42 =>
    brn t42 (
      some ((vb false, []))) (
      (pBin .add false x2 (vi 1)).bind fun t43 =>
      L101_0 x0 x1 t43 x3 x4 x5)) (
    some ((vb true, []))) :=
  (H_eq Try.func101 rfl).trans (by kernel_rfl)
theorem g102 (a0 a1 : A) : G 102 [a0, a1] =
  ((G 142 [a0, a1]).bind (fin false)).bind fun t0 =>
  (pBin .geq false t0 (vi 0)).bind fun t1 =>
  some ((t1, [])) :=
  (G_eq rfl Try.func102 rfl rfl).trans (by kernel_rfl)
theorem g103 (a0 a1 : A) : G 103 [a0, a1] =
  (pCells 2 a0).bind fun t0 =>
  ((G 104 [A.agg [cGet t0 0, cGet t0 1]]).bind (fin false)).bind fun t1 =>
  (pUn .not t1).bind fun t2 =>
  (pG t2 false (pLoadN 3 a1)).bind fun t3 =>
  (pWant t2 false).bind fun t4 =>
  (pG t2 false ((G 105 [t3, A.agg [cGet t0 0, cGet t0 1]]).bind (fin false))).bind fun t5 =>
  (pG t2 false (pUn .not t5)).bind fun t6 =>
  (pPick t2 (vb true) t6).bind fun t7 =>
  some ((t7, [])) :=
  (G_eq rfl Try.func103 rfl rfl).trans (by kernel_rfl)
theorem g104 (a0 : A) : G 104 [a0] =
  (pCells 2 a0).bind fun t0 =>
  ((G 132 [A.agg [cGet t0 0, cGet t0 1]]).bind (fin false)).bind fun t1 =>
  (pWant t1 true).bind fun t2 =>
  (pG t1 true ((G 133 [A.agg [cGet t0 0, cGet t0 1]]).bind (fin false))).bind fun t3 =>
  (pPick t1 t3 (vb false)).bind fun t4 =>
  some ((t4, [])) :=
  (G_eq rfl Try.func104 rfl rfl).trans (by kernel_rfl)
theorem g105 (a0 a1 : A) : G 105 [a0, a1] =
  (pCells 3 a0).bind fun t0 =>
  (pCells 2 a1).bind fun t1 =>
  ((G 106 [A.agg [cGet t1 0, cGet t1 1]]).bind (fin false)).bind fun t2 =>
  (pWant t2 false).bind fun t3 =>
  (pG t2 false (some (cGet t0 0))).bind fun t4 =>
  (pWant t2 false).bind fun t5 =>
  (pG t2 false (some (cGet t1 0))).bind fun t6 =>
  (pG t2 false ((G 141 [t4, t6]).bind (fin false))).bind fun t7 =>
  (pPick t2 (vb true) t7).bind fun t8 =>
  (pWant t8 true).bind fun t9 =>
  (pG t8 true (some (cGet t1 1))).bind fun t10 =>
  (pWant t8 true).bind fun t11 =>
  (pG t8 true ((G 102 [t10, A.fn 143 [A.elt [cGet t0 0, cGet t0 1, cGet t0 2] 0]]).bind (fin true))).bind fun t12 =>
  (pG t8 true (pUn .not t12)).bind fun t13 =>
  (pPick t8 t13 (vb false)).bind fun t14 =>
  some ((t14, [])) :=
  (G_eq rfl Try.func105 rfl rfl).trans (by kernel_rfl)
theorem g106 (a0 : A) : G 106 [a0] =
  (pCells 2 a0).bind fun t0 =>
  (pIndexS (cGet t0 0) (vi 0)).bind fun t1 =>
  ((G 144 [t1]).bind (fin false)).bind fun t2 =>
  some ((t2, [])) :=
  (G_eq rfl Try.func106 rfl rfl).trans (by kernel_rfl)
theorem g107 (a0 a1 : A) : G 107 [a0, a1] =
  (pLenL a0).bind fun t0 =>
  L107_0 a0 a1 t0 (vi 0) :=
  (G_eq rfl Try.func107 rfl rfl).trans (by kernel_rfl)
theorem l107_0 (x0 x1 x2 x3 : A) : L107_0 x0 x1 x2 x3 =
  (pBin .lss false x3 x2).bind fun t1 =>
  (pBool t1).bind fun t2 =>
  brn t2 (
    (pIndexAddr 1 x0 x3).bind fun t3 =>
    (pLoadP t3).bind fun t4 =>
    (pBin .eql false x1 t4).bind fun t5 =>
    (pBool t5).bind fun t6 =>
    brn t6 (
      some ((x3, []))) (
      (pBin .add false x3 (vi 1)).bind fun t7 =>
      L107_0 x0 x1 x2 t7)) (
    some ((vi (-1), []))) :=
  (H_eq Try.func107 rfl).trans (by kernel_rfl)
theorem g108 (a0 a1 a2 : A) : G 108 [a0, a1, a2] =
  (pCells 3 a0).bind fun t0 =>
  (pCells 2 a1).bind fun t1 =>
  (pCells 2 a2).bind fun t2 =>
  ((G 100 [A.agg [cGet t0 0, cGet t0 1, cGet t0 2], cGet t1 0]).bind (fin false)).bind fun t3 =>
  ((G 100 [A.agg [cGet t0 0, cGet t0 1, cGet t0 2], cGet t2 0]).bind (fin false)).bind fun t4 =>
  (pBin .eql false t3 t4).bind fun t5 =>
  (pBool t5).bind fun t6 =>
  brn t6 (
    (pLenL (cGet t1 1)).bind fun t7 =>
    (pLenL (cGet t2 1)).bind fun t8 =>
    (pBin .lss false t7 t8).bind fun t9 =>
    (pBool t9).bind fun t10 =>
    brn t10 (
      some ((vi (-1), []))) (
      (pBin .gtr false t7 t8).bind fun t11 =>
      (pBool t11).bind fun t12 =>
      brn t12 (
        some ((vi 1, []))) (
        some ((vi 0, []))))) (
    (pBin .lss false t3 t4).bind fun t13 =>
    (pBool t13).bind fun t14 =>
    brn t14 (
      some ((vi (-1), []))) (
      (pBin .gtr false t3 t4).bind fun t15 =>
      (pBool t15).bind fun t16 =>
      brn t16 (
        some ((vi 1, []))) (
        some ((vi 0, []))))) :=
  (G_eq rfl Try.func108 rfl rfl).trans (by kernel_rfl)
theorem g109 (a0 a1 : A) : G 109 [a0, a1] =
  (pCells 2 a0).bind fun t0 =>
  (pCells 2 a1).bind fun t1 =>
  L109_0 (vi 0) (cGet t0 0) (cGet t0 1) (cGet t1 0) (cGet t1 1) :=
  (G_eq rfl Try.func109 rfl rfl).trans (by kernel_rfl)
theorem l109_0 (x0 x1 x2 x3 x4 : A) : L109_0 x0 x1 x2 x3 x4 =
  (pLenL x2).bind fun t2 =>
  (pBin .lss false x0 t2).bind fun t3 =>
  (pBool t3).bind fun t4 =>
  brn t4 (
    (pIndexAddr 2 x2 x0).bind fun t5 =>
    (pLoadN 2 t5).bind fun t6 =>
    (pIndexAddr 2 x4 x0).bind fun t7 =>
    (pLoadN 2 t7).bind fun t8 =>
    ((G 58 [t6, t8]).bind (fin false)).bind fun t9 =>
    (pUn .not t9).bind fun t10 =>
    (pBool t10).bind fun t11 =>
    brn t11 (
      some ((x0, []))) (
      (pBin .add false x0 (vi 1)).bind fun t12 =>
      L109_0 t12 x1 x2 x3 x4)) (
    some ((vi (-1), []))) :=
  (H_eq Try.func109 rfl).trans (by kernel_rfl)
theorem g110 (a0 a1 a2 : A) : G 110 [a0, a1, a2] =
  (pLenL a0).bind fun t0 =>
  (pLenL a1).bind fun t1 =>
  (pBin .neq false t0 t1).bind fun t2 =>
  (pBool t2).bind fun t3 =>
  brn t3 (
    some ((vb false, []))) (
    (pLenL a0).bind fun t4 =>
    L110_0 a1 a2 a0 t4 (vi 0)) :=
  (G_eq rfl Try.func110 rfl rfl).trans (by kernel_rfl)
theorem l110_0 (x0 x1 x2 x3 x4 : A) : L110_0 x0 x1 x2 x3 x4 =
  (pBin .lss false x4 x3).bind fun t5 =>
  (pBool t5).bind fun t6 =>
  brn t6 (
    (pIndexAddr 2 x2 x4).bind fun t7 =>
    (pLoadN 2 t7).bind fun t8 =>
    (pCells 2 t8).bind fun t9 =>
    (pIndexAddr 2 x0 x4).bind fun t10 =>
    (pLoadN 2 t10).bind fun t11 =>
    (pCells 2 t11).bind fun t12 =>
    (DX.run K (MM K) (.callc x1 [A.agg [cGet t9 0, cGet t9 1], A.agg [cGet t12 0, cGet t12 1]] false)).bind fun t13 =>
    (pUn .not t13).bind fun t14 =>
    (pBool t14).bind fun t15 =>
    brn t15 (
      some ((vb false, []))) (
      (pBin .add false x4 (vi 1)).bind fun t16 =>
      L110_0 x0 x1 x2 x3 t16)) (
    some ((vb true, []))) :=
  (H_eq Try.func110 rfl).trans (by kernel_rfl)
theorem g111 (a0 a1 a2 : A) : G 111 [a0, a1, a2] =
  (pCells 2 a0).bind fun t0 =>
  (pLoadN 2 a1).bind fun t1 =>
  ((G 61 [A.agg [cGet t0 0, cGet t0 1], t1]).bind (fin false)).bind fun t2 =>
  (pG t2 false (pLoadN 3 a2)).bind fun t3 =>
  (pWant t2 false).bind fun t4 =>
  (pG t2 false (pLoadN 2 a1)).bind fun t5 =>
  (pG t2 false ((G 63 [t3, A.agg [cGet t0 0, cGet t0 1], t5]).bind (fin false))).bind fun t6 =>
  (pPick t2 (vb true) t6).bind fun t7 =>
  some ((t7, [])) :=
  (G_eq rfl Try.func111 rfl rfl).trans (by kernel_rfl)
theorem g112 (a0 a1 a2 : A) : G 112 [a0, a1, a2] =
  (pCells 2 a0).bind fun t0 =>
  (pLoadN 3 a1).bind fun t1 =>
  (pLoadN 2 a2).bind fun t2 =>
  ((G 63 [t1, t2, A.agg [cGet t0 0, cGet t0 1]]).bind (fin false)).bind fun t3 =>
  (pUn .not t3).bind fun t4 =>
  some ((t4, [])) :=
  (G_eq rfl Try.func112 rfl rfl).trans (by kernel_rfl)
theorem g113 (a0 a1 a2 : A) : G 113 [a0, a1, a2] =
  (pCells 3 a0).bind fun t0 =>
  (pCells 2 a1).bind fun t1 =>
  (pCells 2 a2).bind fun t2 =>
  ((G 107 [cGet t0 0, cGet t1 0]).bind (fin false)).bind fun t3 =>
  ((G 107 [cGet t0 0, cGet t2 0]).bind (fin false)).bind fun t4 =>
  (pBin .lss false t3 t4).bind fun t5 =>
  (pG t5 false (some t3)).bind fun t6 =>
  (pG t5 false (some t4)).bind fun t7 =>
  (pG t5 false (pBin .eql false t6 t7)).bind fun t8 =>
  (pG t5 false (some t8)).bind fun t9 =>
  (pWant t9 true).bind fun t10 =>
  (pG t9 true (some (cGet t1 1))).bind fun t11 =>
  (pG t9 true (pLenL t11)).bind fun t12 =>
  (pWant t9 true).bind fun t13 =>
  (pG t9 true (some (cGet t2 1))).bind fun t14 =>
  (pG t9 true (pLenL t14)).bind fun t15 =>
  (pG t9 true (pBin .lss false t12 t15)).bind fun t16 =>
  (pG t5 false (pPick t9 t16 (vb false))).bind fun t17 =>
  (pPick t5 (vb true) t17).bind fun t18 =>
  some ((t18, [])) :=
  (G_eq rfl Try.func113 rfl rfl).trans (by kernel_rfl)
theorem g114 (a0 a1 : A) : G 114 [a0, a1] =
  (pCells 2 a0).bind fun t0 =>
  (pCells 2 a1).bind fun t1 =>
  (pBin .neq false (cGet t0 0) (cGet t1 0)).bind fun t2 =>
  (pWant t2 false).bind fun t3 =>
  (pG t2 false (some (cGet t0 1))).bind fun t4 =>
  (pG t2 false (pLenL t4)).bind fun t5 =>
  (pWant t2 false).bind fun t6 =>
  (pG t2 false (some (cGet t1 1))).bind fun t7 =>
  (pG t2 false (pLenL t7)).bind fun t8 =>
  (pG t2 false (pBin .neq false t5 t8)).bind fun t9 =>
  (pPick t2 (vb true) t9).bind fun t10 =>
  (pBool t10).bind fun t11 =>
  brn t11 (
    some ((A.tup [A.agg [sv [], A.sl 2 []], A.agg [sv [], A.sl 2 []], vb false], []))) (
    (pLenL (cGet t0 1)).bind fun t12 =>
    L114_0 (cGet t0 1) t12 (vi 0) (cGet t1 0) (cGet t1 1) (sv []) (sv []) [] []) :=
  (G_eq rfl Try.func114 rfl rfl).trans (by kernel_rfl)
theorem l114_0 (x0 x1 x2 x3 x4 x5 x6 : A) (r0 r1 : List (List A)) : L114_0 x0 x1 x2 x3 x4 x5 x6 r0 r1 =
  (pBin .lss false x2 x1).bind fun t13 =>
  (pBool t13).bind fun t14 =>
  brn t14 (
    (pIndexAddr 2 x0 x2).bind fun t15 =>
    (pLoadN 2 t15).bind fun t16 =>
    (pCells 2 t16).bind fun t17 =>
    (pIndexAddr 2 x4 x2).bind fun t18 =>
    (pLoadN 2 t18).bind fun t19 =>
    ((G 61 [A.agg [cGet t17 0, cGet t17 1], t19]).bind (fin false)).bind fun t20 =>
    (pUn .not t20).bind fun t21 =>
    (pBool t21).bind fun t22 =>
    brn t22 (
      (pIndexAddr 2 x4 x2).bind fun t23 =>
      (pLoadN 2 t23).bind fun t24 =>
      brn (okA (cGet t17 0)) (
        brn (okA (cGet t17 1)) (
          (pCells 2 t24).bind fun t25 =>
          some ((A.tup [A.agg [cGet t17 0, cGet t17 1], A.agg [cGet t25 0, cGet t25 1], vb true], []))) (
          none)) (
        none)) (
      (pBin .add false x2 (vi 1)).bind fun t26 =>
      L114_0 x0 x1 t26 x3 x4 x5 x6 r0 r1)) (
    some ((A.tup [A.agg [sv [], A.sl 2 []], A.agg [sv [], A.sl 2 []], vb false], []))) :=
  (H_eq Try.func114 rfl).trans (by kernel_rfl)
theorem g116 (a0 a1 a2 : A) : G 116 [a0, a1, a2] =
  (pBin .geq false a0 a1).bind fun t0 =>
  (pG t0 true (some a0)).bind fun t1 =>
  (pG t0 true (some a2)).bind fun t2 =>
  (pG t0 true (pBin .leq false t1 t2)).bind fun t3 =>
  (pPick t0 t3 (vb false)).bind fun t4 =>
  some ((t4, [])) :=
  (G_eq rfl Try.func116 rfl rfl).trans (by kernel_rfl)
theorem g132 (a0 : A) : G 132 [a0] =
  (pCells 2 a0).bind fun t0 =>
  ((G 162 [A.agg [cGet t0 0, cGet t0 1]]).bind (fin false)).bind fun t1 =>
  (pBin .leq false t1 (vi 30)).bind fun t2 =>
  (pWant t2 true).bind fun t3 =>
  (pG t2 true ((G 163 [A.agg [cGet t0 0, cGet t0 1]]).bind (fin false))).bind fun t4 =>
  (pG t2 true (pBin .leq false t4 (vi 8))).bind fun t5 =>
  (pPick t2 t5 (vb false)).bind fun t6 =>
  some ((t6, [])) :=
  (G_eq rfl Try.func132 rfl rfl).trans (by kernel_rfl)
theorem g133 (a0 : A) : G 133 [a0] =
  (pCells 2 a0).bind fun t0 =>
  ((G 164 [cGet t0 0]).bind (fin false)).bind fun t1 =>
  (pBool t1).bind fun t2 =>
  brn t2 (
    (pLenL (cGet t0 1)).bind fun t3 =>
    (pBin .eql false t3 (vi 0)).bind fun t4 =>
    some ((t4, []))) (
    ((G 134 [cGet t0 0]).bind (fin false)).bind fun t5 =>
    (pWant t5 true).bind fun t6 =>
    (pG t5 true (some (cGet t0 1))).bind fun t7 =>
    (pG t5 true (pLenL t7)).bind fun t8 =>
    (pG t5 true (pBin .leq false t8 (vi 4))).bind fun t9 =>
    (pPick t5 t9 (vb false)).bind fun t10 =>
    (pWant t10 true).bind fun t11 =>
    (pG t10 true (some (cGet t0 1))).bind fun t12 =>
    (pG t10 true ((G 102 [t12, A.fn 165 []]).bind (fin false))).bind fun t13 =>
    (pG t10 true (pUn .not t13)).bind fun t14 =>
    (pPick t10 t14 (vb false)).bind fun t15 =>
    some ((t15, []))) :=
  (G_eq rfl Try.func133 rfl rfl).trans (by kernel_rfl)
theorem g134 (a0 : A) : G 134 [a0] =
  (pLenS a0).bind fun t0 =>
  L134_0 a0 t0 (vi 0) :=
  (G_eq rfl Try.func134 rfl rfl).trans (by kernel_rfl)
theorem l134_0 (x0 x1 x2 : A) : L134_0 x0 x1 x2 =
  (pBin .lss false x2 x1).bind fun t1 =>
  (pBool t1).bind fun t2 =>
  brn t2 (
    (pBin .eql false x2 (vi 0)).bind fun t3 =>
    (pG t3 true (some x0)).bind fun t4 =>
    (pG t3 true (some x2)).bind fun t5 =>
    (pG t3 true (pIndexS t4 t5)).bind fun t6 =>
    (pG t3 true ((G 166 [t6]).bind (fin false))).bind fun t7 =>
    (pG t3 true (pUn .not t7)).bind fun t8 =>
    (pPick t3 t8 (vb false)).bind fun t9 =>
    (pG t9 false (some x0)).bind fun t10 =>
    (pG t9 false (some x2)).bind fun t11 =>
    (pG t9 false (pIndexS t10 t11)).bind fun t12 =>
    (pG t9 false ((G 166 [t12]).bind (fin false))).bind fun t13 =>
    (pG t9 false (pUn .not t13)).bind fun t14 =>
    (pG t9 false (some t14)).bind fun t15 =>
    (pG t15 true (some x0)).bind fun t16 =>
    (pG t15 true (some x2)).bind fun t17 =>
    (pG t15 true (pIndexS t16 t17)).bind fun t18 =>
    (pG t15 true ((G 167 [t18]).bind (fin false))).bind fun t19 =>
    (pG t15 true (pUn .not t19)).bind fun t20 =>
    (pG t9 false (pPick t15 t20 (vb false))).bind fun t21 =>
    (pG t9 false (some t21)).bind fun t22 =>
    (pG t22 true (some x0)).bind fun t23 =>
    (pG t22 true (some x2)).bind fun t24 =>
    (pG t22 true (pIndexS t23 t24)).bind fun t25 =>
    (pG t22 true (pBin .neq false t25 (vy 95))).bind fun t26 =>
    (pG t9 false (pPick t22 t26 (vb false))).bind fun t27 =>
    (pPick t9 (vb true) t27).bind fun t28 =>
    (pBool t28).bind fun t29 =>
    brn t29 (
      some ((vb false, []))) (
      (pBin .add false x2 (vi 1)).bind fun t30 =>
      L134_0 x0 x1 t30)) (
    (pLenS x0).bind fun t31 =>
    ((G 116 [t31, vi 1, vi 6]).bind (fin false)).bind fun t32 =>
    (pG t32 true ((G 168 []).bind (fin false))).bind fun t33 =>
    (pG t32 true (some x0)).bind fun t34 =>
    (pG t32 true ((G 141 [t33, t34]).bind (fin false))).bind fun t35 =>
    (pG t32 true (pUn .not t35)).bind fun t36 =>
    (pPick t32 t36 (vb false)).bind fun t37 =>
    some ((t37, []))) :=
  (H_eq Try.func134 rfl).trans (by kernel_rfl)
theorem g138 (a0 : A) : G 138 [a0] =
  (pBin .geq false a0 (vy 97)).bind fun t0 =>
  (pG t0 true (some a0)).bind fun t1 =>
  (pG t0 true (pBin .leq false t1 (vy 122))).bind fun t2 =>
  (pPick t0 t2 (vb false)).bind fun t3 =>
  (pG t3 false (some a0)).bind fun t4 =>
  (pG t3 false (pBin .geq false t4 (vy 48))).bind fun t5 =>
  (pG t3 false (some t5)).bind fun t6 =>
  (pG t6 true (some a0)).bind fun t7 =>
  (pG t6 true (pBin .leq false t7 (vy 57))).bind fun t8 =>
  (pG t3 false (pPick t6 t8 (vb false))).bind fun t9 =>
  (pPick t3 (vb true) t9).bind fun t10 =>
  some ((t10, [])) :=
  (G_eq rfl Try.func138 rfl rfl).trans (by kernel_rfl)
theorem g139 (a0 : A) : G 139 [a0] =
  (pCells 2 a0).bind fun t0 =>
  ((G 171 [A.agg [cGet t0 0, cGet t0 1], vi 30]).bind (fin false)).bind fun t1 =>
  (pBin .leq false t1 (vi 30)).bind fun t2 =>
  (pWant t2 true).bind fun t3 =>
  (pG t2 true ((G 172 [A.agg [cGet t0 0, cGet t0 1]]).bind (fin false))).bind fun t4 =>
  (pG t2 true (pBin .leq false t4 (vi 8))).bind fun t5 =>
  (pPick t2 t5 (vb false)).bind fun t6 =>
  some ((t6, [])) :=
  (G_eq rfl Try.func139 rfl rfl).trans (by kernel_rfl)
theorem g140 (a0 : A) : G 140 [a0] =
  (pCells 2 a0).bind fun t0 =>
  ((G 99 [cGet t0 0]).bind (fin false)).bind fun t1 =>
  (pBool t1).bind fun t2 =>
  brn t2 (
    (pLenL (cGet t0 1)).bind fun t3 =>
    (pBin .eql false t3 (vi 0)).bind fun t4 =>
    some ((t4, []))) (
    ((G 95 [cGet t0 0]).bind (fin false)).bind fun t5 =>
    (pUn .not t5).bind fun t6 =>
    (pWant t6 false).bind fun t7 =>
    (pG t6 false (some (cGet t0 1))).bind fun t8 =>
    (pG t6 false (pLenL t8)).bind fun t9 =>
    (pG t6 false (pBin .gtr false t9 (vi 4))).bind fun t10 =>
    (pPick t6 (vb true) t10).bind fun t11 =>
    (pBool t11).bind fun t12 =>
    brn t12 (
      some ((vb false, []))) (
      L140_0 (vi 0) (cGet t0 0) (cGet t0 1))) :=
  (G_eq rfl Try.func140 rfl rfl).trans (by kernel_rfl)
theorem l140_0 (x0 x1 x2 : A) : L140_0 x0 x1 x2 =
  (pLenL x2).bind fun t13 =>
  (pBin .lss false x0 t13).bind fun t14 =>
  (pBool t14).bind fun t15 =>
  brn t15 (
    (pIndexAddr 2 x2 x0).bind fun t16 =>
    (pLoadN 2 t16).bind fun t17 =>
    ((G 140 [t17]).bind (fin false)).bind fun t18 =>
    (pUn .not t18).bind fun t19 =>
    (pBool t19).bind fun t20 =>
    brn t20 (
      some ((vb false, []))) (
      (pBin .add false x0 (vi 1)).bind fun t21 =>
      L140_0 t21 x1 x2)) (
    some ((vb true, []))) :=
  (H_eq Try.func140 rfl).trans (by kernel_rfl)
theorem g141 (a0 a1 : A) : G 141 [a0, a1] =
  ((G 107 [a0, a1]).bind (fin false)).bind fun t0 =>
  (pBin .geq false t0 (vi 0)).bind fun t1 =>
  some ((t1, [])) :=
  (G_eq rfl Try.func141 rfl rfl).trans (by kernel_rfl)
theorem g142 (a0 a1 : A) : G 142 [a0, a1] =
  (pLenL a0).bind fun t0 =>
  L142_0 a0 a1 t0 (vi 0) :=
  (G_eq rfl Try.func142 rfl rfl).trans (by kernel_rfl)
theorem l142_0 (x0 x1 x2 x3 : A) : L142_0 x0 x1 x2 x3 =
  (pBin .lss false x3 x2).bind fun t1 =>
  (pBool t1).bind fun t2 =>
  brn t2 (
    (pIndexAddr 2 x0 x3).bind fun t3 =>
    (pLoadN 2 t3).bind fun t4 =>
    (DX.run K (MM K) (.callc x1 [t4] false)).bind fun t5 =>
    (pBool t5).bind fun t6 =>
    brn t6 (
      some ((x3, []))) (
      (pBin .add false x3 (vi 1)).bind fun t7 =>
      L142_0 x0 x1 x2 t7)) (
    some ((vi (-1), []))) :=
  (H_eq Try.func142 rfl).trans (by kernel_rfl)
theorem g143 (a0 a1 : A) : G 143 [a0, a1] =
  (pCells 2 a0).bind fun t0 =>
  (pLoadN 3 a1).bind fun t1 =>
  ((G 105 [t1, A.agg [cGet t0 0, cGet t0 1]]).bind (fin false)).bind fun t2 =>
  (pUn .not t2).bind fun t3 =>
  some ((t3, [])) :=
  (G_eq rfl Try.func143 rfl rfl).trans (by kernel_rfl)
theorem g144 (a0 : A) : G 144 [a0] =
  (pBin .geq false a0 (vy 65)).bind fun t0 =>
  (pG t0 true (some a0)).bind fun t1 =>
  (pG t0 true (pBin .leq false t1 (vy 90))).bind fun t2 =>
  (pPick t0 t2 (vb false)).bind fun t3 =>
  some ((t3, [])) :=
  (G_eq rfl Try.func144 rfl rfl).trans (by kernel_rfl)
theorem g162 (a0 : A) : G 162 [a0] =
  (pCells 2 a0).bind fun t0 =>
  (pLenL (cGet t0 1)).bind fun t1 =>
  L162_0 (vi 1) (cGet t0 1) t1 (vi 0) :=
  (G_eq rfl Try.func162 rfl rfl).trans (by kernel_rfl)
theorem l162_0 (x0 x1 x2 x3 : A) : L162_0 x0 x1 x2 x3 =
  (pBin .lss false x3 x2).bind fun t2 =>
  (pBool t2).bind fun t3 =>
  brn t3 (
    (pIndexAddr 2 x1 x3).bind fun t4 =>
    (pLoadN 2 t4).bind fun t5 =>
    (pCells 2 t5).bind fun t6 =>
    (pBin .gtr false x0 (vi 30)).bind fun t7 =>
    (pBool t7).bind fun t8 =>
    brn t8 (
      some ((x0, []))) (
      ((G 162 [A.agg [cGet t6 0, cGet t6 1]]).bind (fin false)).bind fun t9 =>
      (pBin .add false x0 t9).bind fun t10 =>
      (pBin .add false x3 (vi 1)).bind fun t11 =>
      L162_0 t10 x1 x2 t11)) (
    some ((x0, []))) :=
  (H_eq Try.func162 rfl).trans (by kernel_rfl)
theorem g163 (a0 : A) : G 163 [a0] =
  (pCells 2 a0).bind fun t0 =>
  (pLenL (cGet t0 1)).bind fun t1 =>
  L163_0 (vi 0) (cGet t0 1) t1 (vi 0) :=
  (G_eq rfl Try.func163 rfl rfl).trans (by kernel_rfl)
theorem l163_0 (x0 x1 x2 x3 : A) : L163_0 x0 x1 x2 x3 =
  (pBin .lss false x3 x2).bind fun t2 =>
  (pBool t2).bind fun t3 =>
  brn t3 (
    (pIndexAddr 2 x1 x3).bind fun t4 =>
    (pLoadN 2 t4).bind fun t5 =>
    (pCells 2 t5).bind fun t6 =>
    ((G 163 [A.agg [cGet t6 0, cGet t6 1]]).bind (fin false)).bind fun t7 =>
    (pMax x0 t7).bind fun t8 =>
    (pBin .add false x3 (vi 1)).bind fun t9 =>
    L163_0 t8 x1 x2 t9) (
    (pBin .add false x0 (vi 1)).bind fun t10 =>
    some ((t10, []))) :=
  (H_eq Try.func163 rfl).trans (by kernel_rfl)
theorem g164 (a0 : A) : G 164 [a0] =
  (pLenS a0).bind fun t0 =>
  L164_0 a0 t0 (vi 0) :=
  (G_eq rfl Try.func164 rfl rfl).trans (by kernel_rfl)
theorem l164_0 (x0 x1 x2 : A) : L164_0 x0 x1 x2 =
  (pBin .lss false x2 x1).bind fun t1 =>
  (pBool t1).bind fun t2 =>
  brn t2 (
    (pBin .eql false x2 (vi 0)).bind fun t3 =>
    (pG t3 true (some x0)).bind fun t4 =>
    (pG t3 true (some x2)).bind fun t5 =>
    (pG t3 true (pIndexS t4 t5)).bind fun t6 =>
    (pG t3 true ((G 144 [t6]).bind (fin false))).bind fun t7 =>
    (pG t3 true (pUn .not t7)).bind fun t8 =>
    (pPick t3 t8 (vb false)).bind fun t9 =>
    (pG t9 false (some x2)).bind fun t10 =>
    (pG t9 false (pBin .gtr false t10 (vi 0))).bind fun t11 =>
    (pG t9 false (some t11)).bind fun t12 =>
    (pG t12 true (some x0)).bind fun t13 =>
    (pG t12 true (some x2)).bind fun t14 =>
    (pG t12 true (pIndexS t13 t14)).bind fun t15 =>
    (pG t12 true ((G 166 [t15]).bind (fin false))).bind fun t16 =>
    (pG t12 true (pUn .not t16)).bind fun t17 =>
    (pG t9 false (pPick t12 t17 (vb false))).bind fun t18 =>
    (pG t9 false (some t18)).bind fun t19 =>
    (pG t19 true (some x0)).bind fun t20 =>
    (pG t19 true (some x2)).bind fun t21 =>
    (pG t19 true (pIndexS t20 t21)).bind fun t22 =>
    (pG t19 true ((G 167 [t22]).bind (fin false))).bind fun t23 =>
    (pG t19 true (pUn .not t23)).bind fun t24 =>
    (pG t9 false (pPick t19 t24 (vb false))).bind fun t25 =>
    (pPick t9 (vb true) t25).bind fun t26 =>
    (pBool t26).bind fun t27 =>
    brn t27 (
      some ((vb false, []))) (
      (pBin .add false x2 (vi 1)).bind fun t28 =>
      L164_0 x0 x1 t28)) (
    (pLenS x0).bind fun t29 =>
    ((G 116 [t29, vi 1, vi 4]).bind (fin false)).bind fun t30 =>
    some ((t30, []))) :=
  (H_eq Try.func164 rfl).trans (by kernel_rfl)
theorem g165 (a0 : A) : G 165 [a0] =
  (pCells 2 a0).bind fun t0 =>
  ((G 133 [A.agg [cGet t0 0, cGet t0 1]]).bind (fin false)).bind fun t1 =>
  (pUn .not t1).bind fun t2 =>
  some ((t2, [])) :=
  (G_eq rfl Try.func165 rfl rfl).trans (by kernel_rfl)
theorem g166 (a0 : A) : G 166 [a0] =
  (pBin .geq false a0 (vy 97)).bind fun t0 =>
  (pG t0 true (some a0)).bind fun t1 =>
  (pG t0 true (pBin .leq false t1 (vy 122))).bind fun t2 =>
  (pPick t0 t2 (vb false)).bind fun t3 =>
  some ((t3, [])) :=
  (G_eq rfl Try.func166 rfl rfl).trans (by kernel_rfl)
theorem g167 (a0 : A) : G 167 [a0] =
  (pBin .geq false a0 (vy 48)).bind fun t0 =>
  (pG t0 true (some a0)).bind fun t1 =>
  (pG t0 true (pBin .leq false t1 (vy 57))).bind fun t2 =>
  (pPick t0 t2 (vb false)).bind fun t3 =>
  some ((t3, [])) :=
  (G_eq rfl Try.func167 rfl rfl).trans (by kernel_rfl)
theorem g168 : G 168 [] =
  some ((A.sl 1 [[sv [116, 114, 117, 101]], [sv [102, 97, 108, 115, 101]], [sv [116, 114, 117, 116, 104]], [sv [98, 111, 116, 104]], [sv [101, 105, 116, 104, 101, 114]], [sv [105, 102]], [sv [97, 108, 108]], [sv [115, 111, 109, 101]]], [])) :=
  (G_eq rfl Try.func168 rfl rfl).trans (by kernel_rfl)
theorem g171 (a0 a1 : A) : G 171 [a0, a1] =
  (pCells 2 a0).bind fun t0 =>
  L171_0 a1 (vi 1) (vi 0) (cGet t0 0) (cGet t0 1) :=
  (G_eq rfl Try.func171 rfl rfl).trans (by kernel_rfl)
theorem l171_0 (x0 x1 x2 x3 x4 : A) : L171_0 x0 x1 x2 x3 x4 =
  (pLenL x4).bind fun t1 =>
  (pBin .lss false x2 t1).bind fun t2 =>
  (pG t2 true (some x1)).bind fun t3 =>
  (pG t2 true (some x0)).bind fun t4 =>
  (pG t2 true (pBin .leq false t3 t4)).bind fun t5 =>
  (pPick t2 t5 (vb false)).bind fun t6 =>
  (pBool t6).bind fun t7 =>
  brn t7 (
    (pIndexAddr 2 x4 x2).bind fun t8 =>
    (pLoadN 2 t8).bind fun t9 =>
    (pBin .sub false x0 x1).bind fun t10 =>
    ((G 171 [t9, t10]).bind (fin false)).bind fun t11 =>
    (pBin .add false x1 t11).bind fun t12 =>
    (pBin .add false x2 (vi 1)).bind fun t13 =>
    L171_0 x0 t12 t13 x3 x4) (
    some ((x1, []))) :=
  (H_eq Try.func171 rfl).trans (by kernel_rfl)
theorem g172 (a0 : A) : G 172 [a0] =
  (pCells 2 a0).bind fun t0 =>
  L172_0 (vi 0) (vi 0) (cGet t0 0) (cGet t0 1) :=
  (G_eq rfl Try.func172 rfl rfl).trans (by kernel_rfl)
theorem l172_0 (x0 x1 x2 x3 : A) : L172_0 x0 x1 x2 x3 =
  (pLenL x3).bind fun t1 =>
  (pBin .lss false x1 t1).bind fun t2 =>
  (pBool t2).bind fun t3 =>
  brn t3 (
    (pIndexAddr 2 x3 x1).bind fun t4 =>
    (pLoadN 2 t4).bind fun t5 =>
    ((G 172 [t5]).bind (fin false)).bind fun t6 =>
    ((G 89 [x0, t6]).bind (fin false)).bind fun t7 =>
    (pBin .add false x1 (vi 1)).bind fun t8 =>
    L172_0 t7 t8 x2 x3) (
    (pBin .add false x0 (vi 1)).bind fun t9 =>
    some ((t9, []))) :=
  (H_eq Try.func172 rfl).trans (by kernel_rfl)
end Go.Proofs.Ytheaeglaebimoaa
