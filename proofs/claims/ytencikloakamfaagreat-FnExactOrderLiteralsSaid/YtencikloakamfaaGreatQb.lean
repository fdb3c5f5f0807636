/- WRITTEN BY A PROGRAM (gen.py): what functions come to, as equations. -/
import Derived.Test.YtencikloakamfaaGreatK
import Derived.Test.YtencikloakamfaaGreatQa
import Derived.KernelRfl
set_option linter.unusedVariables false
namespace Go.Proofs.YtencikloakamfaaGreat
open Go Go.RowKit Go.Proofs.YtencikloakamfaaGreat.Abs
noncomputable def L31_0 (x0 x1 x2 x3 x4 : A) (r0 : List (List A)) : Option Out := MM K (.head 31 [1, 1, 1, 0, 1, 0] [V.top, V.top, V.ptr 0 0, V.ptr 1 0, V.top, V.top, V.row 2, V.d x0, V.top, V.top, V.top, V.top, V.top, V.top, V.top, V.top, V.top, V.top, V.top, V.top, V.top, V.top, V.top, V.top, V.top, V.top, V.top, V.top, V.top, V.top, V.top, V.top, V.top, V.top, V.top, V.top, V.top, V.top, V.top, V.top, V.top, V.top, V.top, V.top, V.top, V.top, V.top, V.top, V.top, V.top, V.top, V.top, V.top, V.top, V.top, V.top, V.top, V.top, V.top, V.top, V.top, V.top, V.top, V.top, V.top, V.top, V.top, V.top, V.top, V.top, V.top, V.top, V.top, V.top, V.top, V.top, V.top, V.top, V.top, V.top, V.top, V.top] [.box [V.d x1, V.d x2, V.d x3], .box [V.d x4], .row 1 r0] none)
noncomputable def L31_1 (x0 x1 x2 x3 : A) (r0 r1 : List (List A)) : Option Out := MM K (.head 31 [1, 1, 1, 1, 1, 0, 1, 0] [V.top, V.top, V.ptr 0 0, V.top, V.top, V.top, V.row 1, V.top, V.top, V.top, V.row 2, V.d x0, V.top, V.top, V.top, V.top, V.top, V.top, V.top, V.top, V.top, V.top, V.top, V.top, V.top, V.top, V.top, V.top, V.top, V.top, V.top, V.top, V.top, V.top, V.top, V.top, V.top, V.top, V.top, V.top, V.top, V.top, V.top, V.top, V.top, V.top, V.top, V.top, V.top, V.top, V.top, V.top, V.top, V.top, V.top, V.top, V.top, V.top, V.top, V.top, V.top, V.top, V.top, V.top, V.top, V.top, V.top, V.top, V.top, V.top, V.top, V.top, V.top, V.top, V.top, V.top, V.top, V.top, V.top, V.top, V.top, V.top] [.box [V.d x1, V.d x2, V.d x3], .row 1 r0, .row 1 r1] none)
noncomputable def L31_2 (x0 x1 x2 x3 x4 x5 : A) (r0 r1 : List (List A)) : Option Out := MM K (.head 31 [1, 1, 1, 1, 1, 0, 1, 0, 0, 1, 0, 0, 1, 0, 1, 0] [V.top, V.top, V.ptr 0 0, V.top, V.top, V.top, V.row 1, V.top, V.top, V.top, V.row 2, V.d x0, V.d x1, V.d x2, V.top, V.top, V.top, V.top, V.top, V.top, V.top, V.top, V.top, V.top, V.top, V.top, V.top, V.top, V.top, V.top, V.top, V.top, V.top, V.top, V.top, V.top, V.top, V.top, V.top, V.top, V.top, V.top, V.top, V.top, V.top, V.top, V.top, V.top, V.top, V.top, V.top, V.top, V.top, V.top, V.top, V.top, V.top, V.top, V.top, V.top, V.top, V.top, V.top, V.top, V.top, V.top, V.top, V.top, V.top, V.top, V.top, V.top, V.top, V.top, V.top, V.top, V.top, V.top, V.top, V.top, V.top, V.top] [.box [V.d x3, V.d x4, V.d x5], .row 1 r0, .row 1 r1] none)
noncomputable def L49_0 (x0 x1 x2 x3 x4 : A) (r0 r1 : List (List A)) : Option Out := MM K (.head 49 [1, 1, 0, 1, 0] [V.top, V.ptr 0 0, V.ptr 1 0, V.ptr 2 0, V.d x0, V.top, V.top, V.top, V.top, V.top, V.top, V.top, V.top, V.top, V.top, V.top, V.top, V.top, V.top, V.top, V.top, V.top, V.top, V.top, V.top, V.top, V.top] [.box [V.d x1, V.d x2], .box [V.d x3, V.row 3], .box [V.d x4, V.row 4], .row 2 r0, .row 2 r1] none)
noncomputable def C55_0 (x0 x1 : A) : Option Out := MM K (.callv 55 [V.agg [V.d x0, V.d x1]] [])
noncomputable def L69_0 (x0 x1 x2 x3 x4 x5 x6 : A) (r0 : List (List A)) : Option Out := MM K (.head 69 [1, 1, 0, 1, 0] [V.top, V.top, V.ptr 0 0, V.ptr 1 0, V.top, V.row 2, V.top, V.top, V.top, V.top, V.d x0, V.d x1, V.d x2, V.top, V.top, V.top, V.top, V.top, V.top, V.top, V.top, V.top, V.top, V.top, V.top, V.top, V.top, V.top] [.box [V.d x3, V.d x4, V.d x5], .box [V.d x6], .row 1 r0] none)
noncomputable def C97_0 (x0 : A) : Option Out := MM K (.callv 97 [V.d x0] [])
noncomputable def L97c0_0 (x0 x1 x2 : A) (r0 : List (List A)) : Option Out := MM K (.head 97 [1, 1, 1, 0, 1, 0] [V.top, V.top, V.top, V.row 0, V.top, V.top, V.top, V.top, V.top, V.top, V.top, V.top, V.d x0, V.d x1, V.d x2, V.top, V.top, V.top, V.top, V.top, V.top, V.top, V.top, V.top, V.top, V.top] [.row 2 r0] (some []))
noncomputable def L151_0 (x0 x1 x2 x3 : A) : Option Out := MM K (.head 151 [1, 0, 1, 0] [V.d x0, V.d x1, V.top, V.top, V.top, V.top, V.top, V.d x2, V.d x3, V.top, V.top, V.top, V.top, V.top, V.top, V.top, V.top, V.top, V.top] [] none)
theorem g11 (a0 a1 : A) : G 11 [a0, a1] =
  (pCells 3 a0).bind fun t0 =>
  (pCells 2 a1).bind fun t1 =>
  ((G 46 [A.agg [cGet t0 0, cGet t0 1, cGet t0 2]]).bind (fin false)).bind fun t2 =>
  (pUn .not t2).bind fun t3 =>
  (pWant t3 false).bind fun t4 =>
  (pWant t3 false).bind fun t5 =>
  (pG t3 false ((G 47 [A.agg [cGet t0 0, cGet t0 1, cGet t0 2], A.agg [cGet t1 0, cGet t1 1]]).bind (fin false))).bind fun t6 =>
  (pG t3 false (pUn .not t6)).bind fun t7 =>
  (pPick t3 (vb true) t7).bind fun t8 =>
  (pBool t8).bind fun t9 =>
  brn t9 (
    some ((A.tup [A.agg [sv [], A.sl 2 []], vb false, vb false], []))) (
    (pIndexAddr 2 (cGet t1 1) (vi 1)).bind fun t10 =>
    (pLoadN 2 t10).bind fun t11 =>
    (pIndexAddr 2 (cGet t1 1) (vi 0)).bind fun t12 =>
    (pLoadN 2 t12).bind fun t13 =>
    ((G 48 [A.agg [cGet t0 0, cGet t0 1, cGet t0 2], t11, t13]).bind (fin false)).bind fun t14 =>
    (pBool t14).bind fun t15 =>
    brn t15 (
      (pIndexAddr 2 (cGet t1 1) (vi 1)).bind fun t16 =>
      (pLoadN 2 t16).bind fun t17 =>
      ((G 49 [t17]).bind (fin false)).bind fun t18 =>
      (pIndexAddr 2 (cGet t1 1) (vi 0)).bind fun t19 =>
      (pLoadN 2 t19).bind fun t20 =>
      ((G 49 [t20]).bind (fin false)).bind fun t21 =>
      (pCells 2 t18).bind fun t22 =>
      (pCells 2 t21).bind fun t23 =>
      some ((A.tup [A.agg [sv [61], A.sl 2 [[cGet t22 0, cGet t22 1], [cGet t23 0, cGet t23 1]]], vb true, vb true], []))) (
      ((G 49 [A.agg [cGet t1 0, cGet t1 1]]).bind (fin false)).bind fun t24 =>
      (pIndexAddr 2 (cGet t1 1) (vi 0)).bind fun t25 =>
      (pLoadN 2 t25).bind fun t26 =>
      (pIndexAddr 2 (cGet t1 1) (vi 1)).bind fun t27 =>
      (pLoadN 2 t27).bind fun t28 =>
      ((G 48 [A.agg [cGet t0 0, cGet t0 1, cGet t0 2], t26, t28]).bind (fin false)).bind fun t29 =>
      (pCells 2 t24).bind fun t30 =>
      some ((A.tup [A.agg [cGet t30 0, cGet t30 1], t29, vb true], [])))) :=
  (G_eq rfl Tryz.func11 rfl rfl).trans (by kernel_rfl)
theorem g14 (a0 a1 : A) : G 14 [a0, a1] =
  (pCells 3 a0).bind fun t0 =>
  (pCells 2 a1).bind fun t1 =>
  ((G 52 [A.agg [cGet t1 0, cGet t1 1]]).bind (fin false)).bind fun t2 =>
  (pUn .not t2).bind fun t3 =>
  (pWant t3 false).bind fun t4 =>
  (pG t3 false ((G 53 [A.agg [cGet t0 0, cGet t0 1, cGet t0 2]]).bind (fin false))).bind fun t5 =>
  (pG t3 false (pUn .not t5)).bind fun t6 =>
  (pPick t3 (vb true) t6).bind fun t7 =>
  (pWant t7 false).bind fun t8 =>
  (pWant t7 false).bind fun t9 =>
  (pG t7 false ((G 54 [A.agg [cGet t0 0, cGet t0 1, cGet t0 2], A.agg [cGet t1 0, cGet t1 1]]).bind (fin false))).bind fun t10 =>
  (pG t7 false (pUn .not t10)).bind fun t11 =>
  (pPick t7 (vb true) t11).bind fun t12 =>
  (pBool t12).bind fun t13 =>
  brn t13 (
    some ((A.tup [A.agg [sv [], A.sl 2 []], vb false, vb false], []))) (
    (C55_0 (cGet t1 0) (cGet t1 1)).bind fun t14 =>
    (hD t14 0).bind fun t15 =>
    (hR 2 t14 1).bind fun t16 =>
    brn (okA t15) (
      (pIndexAddr 2 (cGet t1 1) (vi 0)).bind fun t17 =>
      (pLoadN 2 t17).bind fun t18 =>
      (pIndexAddr 2 (cGet t1 1) (vi 1)).bind fun t19 =>
      (pLoadN 2 t19).bind fun t20 =>
      ((G 56 [A.agg [cGet t0 0, cGet t0 1, cGet t0 2], t18, t20]).bind (fin false)).bind fun t21 =>
      (pBin .eql false t21 (vi 3)).bind fun t22 =>
      (pBool t22).bind fun t23 =>
      brn t23 (
        (pIx (rLenN t16) (vi 1)).bind fun t24 =>
        (pRowN t16 t24 0 2).bind fun t25 =>
        (pIx (rLenN t16) (vi 0)).bind fun t26 =>
        (pRowN t16 t26 0 2).bind fun t27 =>
        (pIx (rLenN t16) (vi 0)).bind fun t28 =>
        (pCells 2 t25).bind fun t29 =>
        (rGet t16 t28).bind fun t30 =>
        (pIx (rLenN (rSet t16 t28 (cOver t30 0 [cGet t29 0, cGet t29 1]))) (vi 1)).bind fun t31 =>
        (pCells 2 t27).bind fun t32 =>
        (rGet (rSet t16 t28 (cOver t30 0 [cGet t29 0, cGet t29 1])) t31).bind fun t33 =>
        (pBin .eql false t21 (vi 3)).bind fun t34 =>
        (pG t34 false (some t21)).bind fun t35 =>
        (pG t34 false (pBin .eql false t35 (vi 2))).bind fun t36 =>
        (pPick t34 (vb true) t36).bind fun t37 =>
        brn (okA t15) (
          some ((A.tup [A.agg [t15, A.sl 2 (rSet (rSet t16 t28 (cOver t30 0 [cGet t29 0, cGet t29 1])) t31 (cOver t33 0 [cGet t32 0, cGet t32 1]))], t37, vb true], []))) (
          none)) (
        (pBin .eql false t21 (vi 3)).bind fun t38 =>
        (pG t38 false (some t21)).bind fun t39 =>
        (pG t38 false (pBin .eql false t39 (vi 2))).bind fun t40 =>
        (pPick t38 (vb true) t40).bind fun t41 =>
        brn (okA t15) (
          some ((A.tup [A.agg [t15, A.sl 2 t16], t41, vb true], []))) (
          none))) (
      none)) :=
  (G_eq rfl Tryz.func14 rfl rfl).trans (by kernel_rfl)
theorem g31 (a0 a1 : A) : G 31 [a0, a1] =
  (pCells 3 a0).bind fun t0 =>
  (pCells 1 a1).bind fun t1 =>
  ((G 46 [A.agg [cGet t0 0, cGet t0 1, cGet t0 2]]).bind (fin false)).bind fun t2 =>
  (pUn .not t2).bind fun t3 =>
  (pWant t3 false).bind fun t4 =>
  (pG t3 false (some (cGet t1 0))).bind fun t5 =>
  (pG t3 false (pLenL t5)).bind fun t6 =>
  (pG t3 false (pBin .gtr false t6 (vi 8))).bind fun t7 =>
  (pPick t3 (vb true) t7).bind fun t8 =>
  (pBool t8).bind fun t9 =>
  brn t9 (
    some ((A.tup [A.sl 1 [], vb false], []))) (
    L31_0 (vi 0) (cGet t0 0) (cGet t0 1) (cGet t0 2) (cGet t1 0) []) :=
  (G_eq rfl Tryz.func31 rfl rfl).trans (by kernel_rfl)
theorem l31_0 (x0 x1 x2 x3 x4 : A) (r0 : List (List A)) : L31_0 x0 x1 x2 x3 x4 r0 =
  (pLenL x4).bind fun t10 =>
  (pBin .lss false x0 t10).bind fun t11 =>
  (pBool t11).bind fun t12 =>
  brn t12 (
    (pIndexAddr 3 x4 x0).bind fun t13 =>
    (pLoadN 3 t13).bind fun t14 =>
    ((G 64 [A.agg [x1, x2, x3], t14]).bind (fin false)).bind fun t15 =>
    (pTup t15 0).bind fun t16 =>
    (pTup t15 1).bind fun t17 =>
    (pUn .not t17).bind fun t18 =>
    (pBool t18).bind fun t19 =>
    brn t19 (
      some ((A.tup [A.sl 1 [], vb false], []))) (
      brn (okA t16) (
        brn (pFit ((rLenN r0) + (rLenN [[t16]])) 24) (
          (pBin .add false x0 (vi 1)).bind fun t20 =>
          L31_0 t20 x1 x2 x3 x4 (rApp r0 [[t16]])) (
          none)) (
        none))) (
    L31_1 (vi 0) x1 x2 x3 r0 []) :=
  (H_eq Tryz.func31 rfl).trans (by kernel_rfl)
theorem l31_1 (x0 x1 x2 x3 : A) (r0 r1 : List (List A)) : L31_1 x0 x1 x2 x3 r0 r1 =
  (pBin .lss false x0 (rLen r0)).bind fun t21 =>
  (pBool t21).bind fun t22 =>
  brn t22 (
    L31_2 x0 (vb true) (vi 0) x1 x2 x3 r0 r1) (
    some ((A.tup [A.sl 1 r1, vb true], []))) :=
  (H_eq Tryz.func31 rfl).trans (by kernel_rfl)
theorem l31_2 (x0 x1 x2 x3 x4 x5 : A) (r0 r1 : List (List A)) : L31_2 x0 x1 x2 x3 x4 x5 r0 r1 =
  (pBin .lss false x2 (rLen r0)).bind fun t23 =>
  (pBool t23).bind fun t24 =>
  brn t24 (
    (pWant x1 true).bind fun t25 =>
    (pWant x1 true).bind fun t26 =>
    (pG x1 true (some x2)).bind fun t27 =>
    (pWant x1 true).bind fun t28 =>
    brn t28 (
      (pIx (rLenN r0) t27).bind fun t29 =>
      (pG x1 true (pRowP r0 t29 0)).bind fun t30 =>
      (pWant x1 true).bind fun t31 =>
      (pG x1 true (some x0)).bind fun t32 =>
      (pWant x1 true).bind fun t33 =>
      brn t33 (
        (pIx (rLenN r0) t32).bind fun t34 =>
        (pG x1 true (pRowP r0 t34 0)).bind fun t35 =>
        (pG x1 true ((G 61 [A.agg [x3, x4, x5], t30, t35]).bind (fin false))).bind fun t36 =>
        (pG x1 true (pBin .neq false t36 (vi 2))).bind fun t37 =>
        (pPick x1 t37 (vb false)).bind fun t38 =>
        (pBin .add false x2 (vi 1)).bind fun t39 =>
        L31_2 x0 t38 t39 x3 x4 x5 r0 r1) (
        (pG x1 true (pLoadP (A.val undef))).bind fun t40 =>
        (pG x1 true ((G 61 [A.agg [x3, x4, x5], t30, t40]).bind (fin false))).bind fun t41 =>
        (pG x1 true (pBin .neq false t41 (vi 2))).bind fun t42 =>
        (pPick x1 t42 (vb false)).bind fun t43 =>
        (pBin .add false x2 (vi 1)).bind fun t44 =>
        L31_2 x0 t43 t44 x3 x4 x5 r0 r1)) (
      (pG x1 true (pLoadP (A.val undef))).bind fun t45 =>
      (pWant x1 true).bind fun t46 =>
      (pG x1 true (some x0)).bind fun t47 =>
      (pWant x1 true).bind fun t48 =>
      brn t48 (
        (pIx (rLenN r0) t47).bind fun t49 =>
        (pG x1 true (pRowP r0 t49 0)).bind fun t50 =>
        (pG x1 true ((G 61 [A.agg [x3, x4, x5], t45, t50]).bind (fin false))).bind fun t51 =>
        (pG x1 true (pBin .neq false t51 (vi 2))).bind fun t52 =>
        (pPick x1 t52 (vb false)).bind fun t53 =>
        (pBin .add false x2 (vi 1)).bind fun t54 =>
        L31_2 x0 t53 t54 x3 x4 x5 r0 r1) (
        (pG x1 true (pLoadP (A.val undef))).bind fun t55 =>
        (pG x1 true ((G 61 [A.agg [x3, x4, x5], t45, t55]).bind (fin false))).bind fun t56 =>
        (pG x1 true (pBin .neq false t56 (vi 2))).bind fun t57 =>
        (pPick x1 t57 (vb false)).bind fun t58 =>
        (pBin .add false x2 (vi 1)).bind fun t59 =>
        L31_2 x0 t58 t59 x3 x4 x5 r0 r1))) (
    (pBool x1).bind fun t60 =>
    brn t60 (
      brn (okA x0) (
        brn (pFit ((rLenN r1) + (rLenN [[x0]])) 8) (
          (pBin .add false x0 (vi 1)).bind fun t61 =>
          L31_1 t61 x3 x4 x5 r0 (rApp r1 [[x0]])) (
          none)) (
        none)) (
      (pBin .add false x0 (vi 1)).bind fun t62 =>
      L31_1 t62 x3 x4 x5 r0 r1)) :=
  (H_eq Tryz.func31 rfl).trans (by kernel_rfl)
theorem g33 (a0 a1 : A) : G 33 [a0, a1] =
  (pCells 3 a0).bind fun t0 =>
  (pCells 1 a1).bind fun t1 =>
  ((G 53 [A.agg [cGet t0 0, cGet t0 1, cGet t0 2]]).bind (fin false)).bind fun t2 =>
  (pUn .not t2).bind fun t3 =>
  (pWant t3 false).bind fun t4 =>
  (pG t3 false (some (cGet t1 0))).bind fun t5 =>
  (pG t3 false (pLenL t5)).bind fun t6 =>
  (pG t3 false (pBin .gtr false t6 (vi 8))).bind fun t7 =>
  (pPick t3 (vb true) t7).bind fun t8 =>
  (pWant t8 false).bind fun t9 =>
  (pWant t8 false).bind fun t10 =>
  (pG t8 false ((G 68 [A.agg [cGet t0 0, cGet t0 1, cGet t0 2], A.agg [cGet t1 0]]).bind (fin false))).bind fun t11 =>
  (pG t8 false (pUn .not t11)).bind fun t12 =>
  (pPick t8 (vb true) t12).bind fun t13 =>
  (pBool t13).bind fun t14 =>
  brn t14 (
    some ((A.tup [A.sl 1 [], vb false], []))) (
    ((G 69 [A.agg [cGet t0 0, cGet t0 1, cGet t0 2], A.agg [cGet t1 0]]).bind (fin false)).bind fun t15 =>
    some ((A.tup [t15, vb true], []))) :=
  (G_eq rfl Tryz.func33 rfl rfl).trans (by kernel_rfl)
theorem g47 (a0 a1 : A) : G 47 [a0, a1] =
  (pCells 3 a0).bind fun t0 =>
  (pCells 2 a1).bind fun t1 =>
  (pBin .eql false (cGet t1 0) (sv [61])).bind fun t2 =>
  (pWant t2 true).bind fun t3 =>
  (pG t2 true ((G 72 [A.agg [cGet t1 0, cGet t1 1]]).bind (fin false))).bind fun t4 =>
  (pPick t2 t4 (vb false)).bind fun t5 =>
  (pWant t5 true).bind fun t6 =>
  (pWant t5 true).bind fun t7 =>
  (pG t5 true (some (cGet t1 1))).bind fun t8 =>
  (pG t5 true (pIndexAddr 2 t8 (vi 0))).bind fun t9 =>
  (pG t5 true (pLoadN 2 t9)).bind fun t10 =>
  (pG t5 true ((G 87 [A.agg [cGet t0 0, cGet t0 1, cGet t0 2], t10]).bind (fin false))).bind fun t11 =>
  (pPick t5 t11 (vb false)).bind fun t12 =>
  (pWant t12 true).bind fun t13 =>
  (pWant t12 true).bind fun t14 =>
  (pG t12 true (some (cGet t1 1))).bind fun t15 =>
  (pG t12 true (pIndexAddr 2 t15 (vi 1))).bind fun t16 =>
  (pG t12 true (pLoadN 2 t16)).bind fun t17 =>
  (pG t12 true ((G 87 [A.agg [cGet t0 0, cGet t0 1, cGet t0 2], t17]).bind (fin false))).bind fun t18 =>
  (pPick t12 t18 (vb false)).bind fun t19 =>
  some ((t19, [])) :=
  (G_eq rfl Tryz.func47 rfl rfl).trans (by kernel_rfl)
theorem g49 (a0 : A) : G 49 [a0] =
  (pCells 2 a0).bind fun t0 =>
  brn (okA (cGet t0 0)) (
    brn (okA (cGet t0 0)) (
      L49_0 (vi 0) (cGet t0 0) (cGet t0 1) (sv []) (cGet t0 0) [] []) (
      none)) (
    none) :=
  (G_eq rfl Tryz.func49 rfl rfl).trans (by kernel_rfl)
theorem l49_0 (x0 x1 x2 x3 x4 : A) (r0 r1 : List (List A)) : L49_0 x0 x1 x2 x3 x4 r0 r1 =
  (pLenL x2).bind fun t1 =>
  (pBin .lss false x0 t1).bind fun t2 =>
  (pBool t2).bind fun t3 =>
  brn t3 (
    (pIndexAddr 2 x2 x0).bind fun t4 =>
    (pLoadN 2 t4).bind fun t5 =>
    ((G 49 [t5]).bind (fin false)).bind fun t6 =>
    (pCells 2 t6).bind fun t7 =>
    brn (pFit ((rLenN r1) + (rLenN [[cGet t7 0, cGet t7 1]])) 40) (
      (pBin .add false x0 (vi 1)).bind fun t8 =>
      L49_0 t8 x1 x2 x3 x4 r0 (rApp r1 [[cGet t7 0, cGet t7 1]])) (
      none)) (
    brn (okA x4) (
      some ((A.agg [x4, A.sl 2 r1], []))) (
      none)) :=
  (H_eq Tryz.func49 rfl).trans (by kernel_rfl)
theorem c55_0 (x0 x1 : A) : C55_0 x0 x1 =
  brn (okA x0) (
    brn (okA x1) (
      (C97_0 x1).bind fun t0 =>
      (hR 2 t0 0).bind fun t1 =>
      brn (okA x0) (
        brn (okA x0) (
          some ((A.top, [x0, A.sl 2 t1]))) (
          none)) (
        none)) (
      none)) (
    none) :=
  (V_eq rfl Tryz.func55 rfl rfl).trans (by kernel_rfl)
theorem g68 (a0 a1 : A) : G 68 [a0, a1] =
  (pCells 3 a0).bind fun t0 =>
  (pCells 1 a1).bind fun t1 =>
  ((G 119 [cGet t1 0, A.fn 120 [A.elt [cGet t0 0, cGet t0 1, cGet t0 2] 0]]).bind (fin true)).bind fun t2 =>
  (pUn .not t2).bind fun t3 =>
  some ((t3, [])) :=
  (G_eq rfl Tryz.func68 rfl rfl).trans (by kernel_rfl)
theorem g69 (a0 a1 : A) : G 69 [a0, a1] =
  (pCells 3 a0).bind fun t0 =>
  (pCells 1 a1).bind fun t1 =>
  (pLenL (cGet t1 0)).bind fun t2 =>
  L69_0 (cGet t1 0) t2 (vi 0) (cGet t0 0) (cGet t0 1) (cGet t0 2) (cGet t1 0) [] :=
  (G_eq rfl Tryz.func69 rfl rfl).trans (by kernel_rfl)
theorem l69_0 (x0 x1 x2 x3 x4 x5 x6 : A) (r0 : List (List A)) : L69_0 x0 x1 x2 x3 x4 x5 x6 r0 =
  (pBin .lss false x2 x1).bind fun t3 =>
  (pBool t3).bind fun t4 =>
  brn t4 (
    (pIndexAddr 3 x0 x2).bind fun t5 =>
    (pLoadN 3 t5).bind fun t6 =>
    (pCells 3 t6).bind fun t7 =>
    ((G 119 [x6, A.fn 121 [A.elt [x3, x4, x5] 0, A.elt [cGet t7 0, cGet t7 1, cGet t7 2] 0]]).bind (fin true)).bind fun t8 =>
    (pUn .not t8).bind fun t9 =>
    (pBool t9).bind fun t10 =>
    brn t10 (
      brn (okA x2) (
        brn (pFit ((rLenN r0) + (rLenN [[x2]])) 8) (
          (pBin .add false x2 (vi 1)).bind fun t11 =>
          L69_0 x0 x1 t11 x3 x4 x5 x6 (rApp r0 [[x2]])) (
          none)) (
        none)) (
      (pBin .add false x2 (vi 1)).bind fun t12 =>
      L69_0 x0 x1 t12 x3 x4 x5 x6 r0)) (
    some ((A.sl 1 r0, []))) :=
  (H_eq Tryz.func69 rfl).trans (by kernel_rfl)
theorem c97_0 (x0 : A) : C97_0 x0 =
  (pLenL x0).bind fun t0 =>
  (pBin .eql false t0 (vi 0)).bind fun t1 =>
  (pBool t1).bind fun t2 =>
  brn t2 (
    some ((A.top, [A.sl 2 []]))) (
    (pLenL x0).bind fun t3 =>
    (pMake 40 t3 t3).bind fun t4 =>
    (pLenL x0).bind fun t5 =>
    L97c0_0 x0 t5 (vi 0) (rRep t4 [sv [], A.sl 2 []])) :=
  (V_eq rfl Tryz.func97 rfl rfl).trans (by kernel_rfl)
theorem l97c0_0 (x0 x1 x2 : A) (r0 : List (List A)) : L97c0_0 x0 x1 x2 r0 =
  (pBin .lss false x2 x1).bind fun t6 =>
  (pBool t6).bind fun t7 =>
  brn t7 (
    (pIndexAddr 2 x0 x2).bind fun t8 =>
    (pLoadN 2 t8).bind fun t9 =>
    (pCells 2 t9).bind fun t10 =>
    (C55_0 (cGet t10 0) (cGet t10 1)).bind fun t11 =>
    (hD t11 0).bind fun t12 =>
    (hR 2 t11 1).bind fun t13 =>
    (pIx (rLenN r0) x2).bind fun t14 =>
    brn (okA t12) (
      (rGet r0 t14).bind fun t15 =>
      (pBin .add false x2 (vi 1)).bind fun t16 =>
      L97c0_0 x0 x1 t16 (rSet r0 t14 (cOver t15 0 [t12, A.sl 2 t13]))) (
      none)) (
    some ((A.top, [A.sl 2 r0]))) :=
  (H_eq Tryz.func97 rfl).trans (by kernel_rfl)
theorem g119 (a0 a1 : A) : G 119 [a0, a1] =
  ((G 151 [a0, a1]).bind (fin false)).bind fun t0 =>
  (pBin .geq false t0 (vi 0)).bind fun t1 =>
  some ((t1, [])) :=
  (G_eq rfl Tryz.func119 rfl rfl).trans (by kernel_rfl)
theorem g120 (a0 a1 : A) : G 120 [a0, a1] =
  (pCells 3 a0).bind fun t0 =>
  (pLoadN 3 a1).bind fun t1 =>
  ((G 54 [t1, A.agg [cGet t0 1, cGet t0 2]]).bind (fin false)).bind fun t2 =>
  (pUn .not t2).bind fun t3 =>
  some ((t3, [])) :=
  (G_eq rfl Tryz.func120 rfl rfl).trans (by kernel_rfl)
theorem g121 (a0 a1 a2 : A) : G 121 [a0, a1, a2] =
  (pCells 3 a0).bind fun t0 =>
  (pLoadN 3 a1).bind fun t1 =>
  (pLoadN 3 a2).bind fun t2 =>
  ((G 65 [t1, A.agg [cGet t0 0, cGet t0 1, cGet t0 2], t2]).bind (fin false)).bind fun t3 =>
  (pBin .eql false t3 (vi 2)).bind fun t4 =>
  some ((t4, [])) :=
  (G_eq rfl Tryz.func121 rfl rfl).trans (by kernel_rfl)
theorem g151 (a0 a1 : A) : G 151 [a0, a1] =
  (pLenL a0).bind fun t0 =>
  L151_0 a0 a1 t0 (vi 0) :=
  (G_eq rfl Tryz.func151 rfl rfl).trans (by kernel_rfl)
theorem l151_0 (x0 x1 x2 x3 : A) : L151_0 x0 x1 x2 x3 =
  (pBin .lss false x3 x2).bind fun t1 =>
  (pBool t1).bind fun t2 =>
  brn t2 (
    (pIndexAddr 3 x0 x3).bind fun t3 =>
    (pLoadN 3 t3).bind fun t4 =>
    (DX.run K (MM K) (.callc x1 [t4] false)).bind fun t5 =>
    (pBool t5).bind fun t6 =>
    brn t6 (
      some ((x3, []))) (
      (pBin .add false x3 (vi 1)).bind fun t7 =>
      L151_0 x0 x1 x2 t7)) (
    some ((vi (-1), []))) :=
  (H_eq Tryz.func151 rfl).trans (by kernel_rfl)
end Go.Proofs.YtencikloakamfaaGreat
