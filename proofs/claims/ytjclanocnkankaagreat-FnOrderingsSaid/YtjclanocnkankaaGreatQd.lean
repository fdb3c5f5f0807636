/- WRITTEN BY A PROGRAM (gen.py): what functions come to, as equations. -/
import Derived.Test.YtjclanocnkankaaGreatK
import Derived.Test.YtjclanocnkankaaGreatQa
import Derived.KernelRfl
set_option linter.unusedVariables false
namespace Go.Proofs.YtjclanocnkankaaGreat
open Go Go.RowKit Go.Proofs.YtjclanocnkankaaGreat.Abs
noncomputable def L46_0 (x0 x1 x2 x3 x4 : A) : Option Out := MM K (.head 46 [1, 1, 0, 1, 0] [V.top, V.top, V.ptr 0 0, V.ptr 1 0, V.top, V.d x0, V.top, V.top, V.top, V.top, V.top, V.top, V.top, V.top, V.top, V.top, V.top, V.top, V.top, V.top, V.top, V.top, V.top, V.top, V.top, V.top, V.top, V.top, V.top, V.top, V.top, V.top, V.top, V.top, V.top, V.top, V.top, V.top, V.top] [.box [V.d x1, V.d x2], .box [V.d x3, V.d x4]] none)
noncomputable def L53_0 (x0 x1 x2 x3 x4 : A) (r0 r1 : List (List A)) : Option Out := MM K (.head 53 [1, 1, 0, 1, 0] [V.top, V.ptr 0 0, V.ptr 1 0, V.ptr 2 0, V.d x0, V.top, V.top, V.top, V.top, V.top, V.top, V.top, V.top, V.top, V.top, V.top, V.top, V.top, V.top, V.top, V.top, V.top, V.top, V.top, V.top, V.top, V.top] [.box [V.d x1, V.d x2], .box [V.d x3, V.row 3], .box [V.d x4, V.row 4], .row 2 r0, .row 2 r1] none)
noncomputable def C84_0 (x0 x1 x2 : A) : Option Out := MM K (.callv 84 [V.ptr 0 0] [.box [V.d x0, V.d x1, V.d x2]])
noncomputable def L84c0_0 (x0 x1 x2 x3 x4 : A) (r0 r1 r2 r3 r4 : List (List A)) : Option Out := MM K (.head 84 [1, 1, 1, 0, 0] [V.ptr 0 0, V.top, V.ptr 1 0, V.row 2, V.ptr 3 0, V.top, V.top, V.top, V.top, V.top, V.top, V.top, V.top, V.top, V.top, V.top, V.top, V.top, V.top, V.top, V.top, V.top, V.top, V.top, V.top, V.top, V.top, V.top, V.top, V.top, V.top, V.top, V.top, V.top, V.top, V.top, V.top, V.top, V.top, V.top, V.top, V.top, V.top, V.top, V.top, V.top, V.top, V.top, V.top, V.top, V.top, V.top, V.top, V.top, V.top, V.top, V.top, V.top, V.top, V.top, V.top, V.top, V.top, V.top, V.top, V.top, V.top, V.top, V.top, V.top, V.top, V.top, V.top, V.top, V.top, V.top, V.top, V.top, V.top, V.top, V.top, V.top, V.top, V.top, V.top, V.top, V.top, V.top, V.top, V.top, V.top] [.box [V.d x0, V.d x1, V.d x2], .box [V.row 4, V.row 5, V.d x3], .row 1 r0, .box [V.row 6, V.row 7, V.d x4], .row 1 r1, .row 1 r2, .row 1 r3, .row 1 r4] (some [0]))
noncomputable def C85_0 (x0 x1 x2 : A) : Option Out := MM K (.callv 85 [V.ptr 0 0] [.box [V.d x0, V.d x1, V.d x2]])
noncomputable def C94_0 (x0 x1 x2 x3 : A) : Option Out := MM K (.callv 94 [V.ptr 0 0, V.d x0] [.box [V.d x1, V.d x2, V.d x3]])
noncomputable def C95_0 (x0 x1 x2 : A) : Option Out := MM K (.callv 95 [V.ptr 0 0] [.box [V.d x0, V.d x1, V.d x2]])
noncomputable def C134_0 (x0 x1 x2 x3 : A) : Option Out := MM K (.callv 134 [V.ptr 0 0, V.d x0] [.box [V.d x1, V.d x2, V.d x3]])
noncomputable def C135_0 (x0 x1 x2 : A) (r0 : List (List A)) : Option Out := MM K (.callv 135 [V.ptr 0 0, V.row 1] [.box [V.d x0, V.d x1, V.d x2], .row 1 r0])
noncomputable def C136_0 (x0 x1 x2 : A) (r0 : List (List A)) : Option Out := MM K (.callv 136 [V.ptr 0 0, V.row 1] [.box [V.d x0, V.d x1, V.d x2], .row 1 r0])
noncomputable def C137_0 (x0 x1 x2 : A) : Option Out := MM K (.callv 137 [V.ptr 0 0] [.box [V.d x0, V.d x1, V.d x2]])
noncomputable def C138_0 (x0 x1 x2 : A) : Option Out := MM K (.callv 138 [V.ptr 0 0] [.box [V.d x0, V.d x1, V.d x2]])
noncomputable def C145_0 (x0 x1 x2 x3 : A) : Option Out := MM K (.callv 145 [V.ptr 0 0, V.d x0] [.box [V.d x1, V.d x2, V.d x3]])
noncomputable def C178_0 (x0 x1 x2 : A) : Option Out := MM K (.callv 178 [V.ptr 0 0] [.box [V.d x0, V.d x1, V.d x2]])
noncomputable def C179_0 (x0 x1 x2 x3 : A) : Option Out := MM K (.callv 179 [V.ptr 0 0, V.d x0] [.box [V.d x1, V.d x2, V.d x3]])
noncomputable def L179c0_0 (x0 x1 x2 x3 x4 x5 : A) (r0 r1 : List (List A)) : Option Out := MM K (.head 179 [1, 1, 0, 0] [V.top, V.d x0, V.top, V.top, V.ptr 0 0, V.ptr 1 0, V.top, V.top, V.top, V.top, V.top, V.top, V.top, V.top, V.top, V.top, V.top, V.top] [.box [V.d x1, V.row 3], .box [V.d x2, V.row 4], .box [V.d x3, V.d x4, V.d x5], .row 2 r0, .row 2 r1] (some [2]))
noncomputable def C180_0 (x0 x1 x2 : A) : Option Out := MM K (.callv 180 [V.ptr 0 0] [.box [V.d x0, V.d x1, V.d x2]])
noncomputable def L180c0_0 (x0 x1 x2 x3 x4 x5 : A) (r0 r1 : List (List A)) : Option Out := MM K (.head 180 [1, 1, 0, 1, 0] [V.ptr 0 0, V.top, V.ptr 1 0, V.ptr 2 0, V.d x0, V.top, V.top, V.top, V.top, V.top, V.top, V.top, V.top, V.top, V.top, V.top, V.top, V.top, V.top, V.top, V.top, V.top, V.top, V.top, V.top, V.top, V.top, V.top, V.top, V.top, V.top, V.top, V.top, V.top, V.top, V.top, V.top, V.top, V.top, V.top, V.top, V.top, V.top, V.top, V.top, V.top, V.top, V.top, V.top, V.top, V.top, V.top, V.top, V.top] [.box [V.d x1, V.d x2, V.d x3], .box [V.d x4, V.row 3], .box [V.d x5, V.row 4], .row 2 r0, .row 2 r1] (some [0]))
noncomputable def L180c0_1 (x0 x1 x2 x3 x4 x5 x6 x7 : A) (r0 r1 r2 : List (List A)) : Option Out := MM K (.head 180 [1, 1, 0, 1, 0, 0, 1, 0, 0, 1, 0, 1, 0] [V.ptr 0 0, V.top, V.ptr 1 0, V.ptr 2 0, V.d x0, V.ptr 3 0, V.d x1, V.top, V.top, V.top, V.top, V.top, V.top, V.top, V.top, V.top, V.top, V.top, V.top, V.top, V.top, V.top, V.top, V.top, V.top, V.top, V.top, V.top, V.top, V.top, V.top, V.top, V.top, V.top, V.top, V.top, V.top, V.top, V.top, V.top, V.top, V.top, V.top, V.top, V.top, V.top, V.top, V.top, V.top, V.top, V.top, V.top, V.top, V.top] [.box [V.d x2, V.d x3, V.d x4], .box [V.d x5, V.row 4], .box [V.d x6, V.row 5], .box [V.d x7, V.row 6], .row 2 r0, .row 2 r1, .row 2 r2] (some [0]))
theorem g8 (a0 : A) : G 8 [a0] =
  ((G 37 [a0]).bind (fin false)).bind fun t0 =>
  (pBool t0).bind fun t1 =>
  brn t1 (
    some ((vb true, []))) (
    ((G 45 [a0]).bind (fin false)).bind fun t2 =>
    (pTup t2 0).bind fun t3 =>
    (pTup t2 1).bind fun t4 =>
    (pCells 3 t3).bind fun t5 =>
    (pCells 2 t4).bind fun t6 =>
    ((G 14 [A.agg [cGet t5 0, cGet t5 1, cGet t5 2], A.agg [cGet t6 0, cGet t6 1]]).bind (fin false)).bind fun t7 =>
    (pTup t7 0).bind fun t8 =>
    (pTup t7 1).bind fun t9 =>
    (pTup t7 2).bind fun t10 =>
    (pCells 2 t8).bind fun t11 =>
    ((G 11 [A.agg [cGet t5 0, cGet t5 1, cGet t5 2], A.agg [cGet t6 0, cGet t6 1]]).bind (fin false)).bind fun t12 =>
    (pTup t12 0).bind fun t13 =>
    (pTup t12 1).bind fun t14 =>
    (pTup t12 2).bind fun t15 =>
    (pCells 2 t13).bind fun t16 =>
    (pBin .neq true t10 t15).bind fun t17 =>
    (pG t17 false (some t10)).bind fun t18 =>
    (pG t17 false (pUn .not t18)).bind fun t19 =>
    (pPick t17 (vb true) t19).bind fun t20 =>
    (pBool t20).bind fun t21 =>
    brn t21 (
      (pBin .eql true t10 t15).bind fun t22 =>
      (pG t22 true (some t9)).bind fun t23 =>
      (pG t22 true (pUn .not t23)).bind fun t24 =>
      (pPick t22 t24 (vb false)).bind fun t25 =>
      some ((t25, []))) (
      (pLenL (cGet t11 1)).bind fun t26 =>
      (pBin .neq false t26 (vi 2)).bind fun t27 =>
      (pWant t27 false).bind fun t28 =>
      (pWant t27 false).bind fun t29 =>
      (pG t27 false ((G 46 [A.agg [cGet t11 0, cGet t11 1], A.agg [cGet t6 0, cGet t6 1]]).bind (fin false))).bind fun t30 =>
      (pG t27 false (some t30)).bind fun t31 =>
      (pWant t31 false).bind fun t32 =>
      (pG t31 false (some (cGet t11 1))).bind fun t33 =>
      (pG t31 false (pIndexAddr 2 t33 (vi 0))).bind fun t34 =>
      (pG t31 false (pLoadN 2 t34)).bind fun t35 =>
      (pWant t31 false).bind fun t36 =>
      (pG t31 false (some (cGet t6 1))).bind fun t37 =>
      (pG t31 false (pIndexAddr 2 t37 (vi 1))).bind fun t38 =>
      (pG t31 false (pLoadN 2 t38)).bind fun t39 =>
      (pG t31 false ((G 46 [t35, t39]).bind (fin false))).bind fun t40 =>
      (pG t31 false (some t40)).bind fun t41 =>
      (pWant t41 true).bind fun t42 =>
      (pG t41 true (some (cGet t11 1))).bind fun t43 =>
      (pG t41 true (pIndexAddr 2 t43 (vi 1))).bind fun t44 =>
      (pG t41 true (pLoadN 2 t44)).bind fun t45 =>
      (pWant t41 true).bind fun t46 =>
      (pG t41 true (some (cGet t6 1))).bind fun t47 =>
      (pG t41 true (pIndexAddr 2 t47 (vi 0))).bind fun t48 =>
      (pG t41 true (pLoadN 2 t48)).bind fun t49 =>
      (pG t41 true ((G 46 [t45, t49]).bind (fin false))).bind fun t50 =>
      (pG t31 false (pPick t41 t50 (vb false))).bind fun t51 =>
      (pG t27 false (pPick t31 (vb true) t51)).bind fun t52 =>
      (pG t27 false (pUn .not t52)).bind fun t53 =>
      (pPick t27 (vb true) t53).bind fun t54 =>
      (pBool t54).bind fun t55 =>
      brn t55 (
        some ((vb false, []))) (
        (pIndexAddr 2 (cGet t11 1) (vi 0)).bind fun t56 =>
        (pLoadN 2 t56).bind fun t57 =>
        (pIndexAddr 2 (cGet t11 1) (vi 1)).bind fun t58 =>
        (pLoadN 2 t58).bind fun t59 =>
        ((G 40 [A.agg [cGet t5 0, cGet t5 1, cGet t5 2], t57, t59]).bind (fin false)).bind fun t60 =>
        (pTup t60 0).bind fun t61 =>
        (pTup t60 1).bind fun t62 =>
        brn (okA (cGet t11 0)) (
          brn (okA (cGet t11 1)) (
            ((G 47 [A.agg [cGet t5 0, cGet t5 1, cGet t5 2], A.sl 2 [[cGet t11 0, cGet t11 1]]]).bind (fin true)).bind fun t63 =>
            (pTup t63 0).bind fun t64 =>
            (pTup t63 1).bind fun t65 =>
            (pG t62 true (some t65)).bind fun t66 =>
            (pPick t62 t66 (vb false)).bind fun t67 =>
            (pG t67 true (some t61)).bind fun t68 =>
            (pG t67 true (pBin .eql false t68 (vi 2))).bind fun t69 =>
            (pG t67 true (some t9)).bind fun t70 =>
            (pG t67 true (pBin .eql true t69 t70)).bind fun t71 =>
            (pPick t67 t71 (vb false)).bind fun t72 =>
            (pG t72 true (some t61)).bind fun t73 =>
            (pG t72 true (pBin .neq false t73 (vi 3))).bind fun t74 =>
            (pPick t72 t74 (vb false)).bind fun t75 =>
            (pG t75 true (some t64)).bind fun t76 =>
            (pG t75 true (pBin .eql false t76 (vi (-1)))).bind fun t77 =>
            (pG t75 true (some t9)).bind fun t78 =>
            (pG t75 true (pBin .eql true t77 t78)).bind fun t79 =>
            (pPick t75 t79 (vb false)).bind fun t80 =>
            some ((t80, []))) (
            none)) (
          none)))) :=
  (G_eq rfl Tryz.func8 rfl rfl).trans (by kernel_rfl)
theorem g11 (a0 a1 : A) : G 11 [a0, a1] =
  (pCells 3 a0).bind fun t0 =>
  (pCells 2 a1).bind fun t1 =>
  ((G 50 [A.agg [cGet t0 0, cGet t0 1, cGet t0 2]]).bind (fin false)).bind fun t2 =>
  (pUn .not t2).bind fun t3 =>
  (pWant t3 false).bind fun t4 =>
  (pWant t3 false).bind fun t5 =>
  (pG t3 false ((G 51 [A.agg [cGet t0 0, cGet t0 1, cGet t0 2], A.agg [cGet t1 0, cGet t1 1]]).bind (fin false))).bind fun t6 =>
  (pG t3 false (pUn .not t6)).bind fun t7 =>
  (pPick t3 (vb true) t7).bind fun t8 =>
  (pBool t8).bind fun t9 =>
  brn t9 (
    some ((A.tup [A.agg [sv [], A.sl 2 []], vb false, vb false], []))) (
    (pIndexAddr 2 (cGet t1 1) (vi 1)).bind fun t10 =>
    (pLoadN 2 t10).bind fun t11 =>
    (pIndexAddr 2 (cGet t1 1) (vi 0)).bind fun t12 =>
    (pLoadN 2 t12).bind fun t13 =>
    ((G 52 [A.agg [cGet t0 0, cGet t0 1, cGet t0 2], t11, t13]).bind (fin false)).bind fun t14 =>
    (pBool t14).bind fun t15 =>
    brn t15 (
      (pIndexAddr 2 (cGet t1 1) (vi 1)).bind fun t16 =>
      (pLoadN 2 t16).bind fun t17 =>
      (G 53 [t17]).bind fun t18 =>
      (fin false t18).bind fun t19 =>
      (pIndexAddr 2 (cGet t1 1) (vi 0)).bind fun t20 =>
      (pLoadN 2 t20).bind fun t21 =>
      (G 53 [t21]).bind fun t22 =>
      (fin false t22).bind fun t23 =>
      (pCells 2 t19).bind fun t24 =>
      (pCells 2 t23).bind fun t25 =>
      some ((A.tup [A.agg [sv [61], A.sl 2 [[cGet t24 0, cGet t24 1], [cGet t25 0, cGet t25 1]]], vb true, vb true], []))) (
      (G 53 [A.agg [cGet t1 0, cGet t1 1]]).bind fun t26 =>
      (fin false t26).bind fun t27 =>
      (pIndexAddr 2 (cGet t1 1) (vi 0)).bind fun t28 =>
      (pLoadN 2 t28).bind fun t29 =>
      (pIndexAddr 2 (cGet t1 1) (vi 1)).bind fun t30 =>
      (pLoadN 2 t30).bind fun t31 =>
      ((G 52 [A.agg [cGet t0 0, cGet t0 1, cGet t0 2], t29, t31]).bind (fin false)).bind fun t32 =>
      (pCells 2 t27).bind fun t33 =>
      some ((A.tup [A.agg [cGet t33 0, cGet t33 1], t32, vb true], [])))) :=
  (G_eq rfl Tryz.func11 rfl rfl).trans (by kernel_rfl)
theorem g37 (a0 : A) : G 37 [a0] =
  (pLenL a0).bind fun t0 =>
  (pBin .gtr false t0 (vi 65536)).bind fun t1 =>
  some ((t1, [])) :=
  (G_eq rfl Tryz.func37 rfl rfl).trans (by kernel_rfl)
theorem g45 (a0 : A) : G 45 [a0] =
  brn (okA a0) (
    brn (okA a0) (
      (C84_0 a0 (vi 0) (A.val (.int .u64 0))).bind fun t0 =>
      (hD t0 0).bind fun t1 =>
      (hD t0 1).bind fun t2 =>
      (hD t0 2).bind fun t3 =>
      (hD t0 3).bind fun t4 =>
      (pCells 3 t4).bind fun t5 =>
      (C85_0 t1 t2 t3).bind fun t6 =>
      (hD t6 0).bind fun t7 =>
      (hD t6 1).bind fun t8 =>
      (hD t6 2).bind fun t9 =>
      (hD t6 3).bind fun t10 =>
      (pTup t10 0).bind fun t11 =>
      (pTup t10 1).bind fun t12 =>
      (pCells 2 t11).bind fun t13 =>
      (pCells 2 t12).bind fun t14 =>
      brn (okA (cGet t13 0)) (
        brn (okA (cGet t13 1)) (
          brn (okA (cGet t14 0)) (
            brn (okA (cGet t14 1)) (
              (C94_0 (vi 20) t7 t8 t9).bind fun t15 =>
              (hD t15 0).bind fun t16 =>
              (hD t15 1).bind fun t17 =>
              (hD t15 2).bind fun t18 =>
              (hD t15 3).bind fun t19 =>
              (pBool t19).bind fun t20 =>
              brn t20 (
                (C95_0 t16 t17 t18).bind fun t21 =>
                (hD t21 0).bind fun t22 =>
                (hD t21 1).bind fun t23 =>
                (hD t21 2).bind fun t24 =>
                (hD t21 3).bind fun t25 =>
                (hR 2 t21 4).bind fun t26 =>
                brn (okA t25) (
                  brn (okA (cGet t5 0)) (
                    brn (okA (cGet t5 1)) (
                      brn (okA (cGet t5 2)) (
                        brn (okA t25) (
                          some ((A.tup [A.agg [cGet t5 0, cGet t5 1, cGet t5 2], A.agg [t25, A.sl 2 t26]], []))) (
                          none)) (
                        none)) (
                      none)) (
                    none)) (
                  none)) (
                brn (okA (cGet t5 0)) (
                  brn (okA (cGet t5 1)) (
                    brn (okA (cGet t5 2)) (
                      some ((A.tup [A.agg [cGet t5 0, cGet t5 1, cGet t5 2], A.agg [sv [61], A.sl 2 [[cGet t13 0, cGet t13 1], [cGet t14 0, cGet t14 1]]]], []))) (
                      none)) (
                    none)) (
                  none))) (
              none)) (
            none)) (
          none)) (
        none)) (
      none)) (
    none) :=
  (G_eq rfl Tryz.func45 rfl rfl).trans (by kernel_rfl)
theorem g46 (a0 a1 : A) : G 46 [a0, a1] =
  (pCells 2 a0).bind fun t0 =>
  (pCells 2 a1).bind fun t1 =>
  (pBin .neq false (cGet t0 0) (cGet t1 0)).bind fun t2 =>
  (pWant t2 false).bind fun t3 =>
  (pG t2 false (some (cGet t0 1))).bind fun t4 =>
  (pG t2 false (pLenL t4)).bind fun t5 =>
  (pWant t2 false).bind fun t6 =>
  (pG t2 false (some (cGet t1 1))).bind fun t7 =>
  (pG t2 false (pLenL t7)).bind fun t8 =>
  (pG t2 false (pBin .neq false t5 t8)).bind fun t9 =>
  (pPick t2 (vb true) t9).bind fun t10 =>
  (pBool t10).bind fun t11 =>
  brn t11 (
    some ((vb false, []))) (
    L46_0 (vi 0) (cGet t0 0) (cGet t0 1) (cGet t1 0) (cGet t1 1)) :=
  (G_eq rfl Tryz.func46 rfl rfl).trans (by kernel_rfl)
theorem l46_0 (x0 x1 x2 x3 x4 : A) : L46_0 x0 x1 x2 x3 x4 =
  (pLenL x2).bind fun t12 =>
  (pBin .lss false x0 t12).bind fun t13 =>
  (pBool t13).bind fun t14 =>
  brn t14 (
    (pIndexAddr 2 x2 x0).bind fun t15 =>
    (pLoadN 2 t15).bind fun t16 =>
    (pIndexAddr 2 x4 x0).bind fun t17 =>
    (pLoadN 2 t17).bind fun t18 =>
    ((G 46 [t16, t18]).bind (fin false)).bind fun t19 =>
    (pUn .not t19).bind fun t20 =>
    (pBool t20).bind fun t21 =>
    brn t21 (
      some ((vb false, []))) (
      (pBin .add false x0 (vi 1)).bind fun t22 =>
      L46_0 t22 x1 x2 x3 x4)) (
    some ((vb true, []))) :=
  (H_eq Tryz.func46 rfl).trans (by kernel_rfl)
theorem g53 (a0 : A) : G 53 [a0] =
  (pCells 2 a0).bind fun t0 =>
  brn (okA (cGet t0 0)) (
    brn (okA (cGet t0 0)) (
      L53_0 (vi 0) (cGet t0 0) (cGet t0 1) (sv []) (cGet t0 0) [] []) (
      none)) (
    none) :=
  (G_eq rfl Tryz.func53 rfl rfl).trans (by kernel_rfl)
theorem l53_0 (x0 x1 x2 x3 x4 : A) (r0 r1 : List (List A)) : L53_0 x0 x1 x2 x3 x4 r0 r1 =
  (pLenL x2).bind fun t1 =>
  (pBin .lss false x0 t1).bind fun t2 =>
  (pBool t2).bind fun t3 =>
  brn t3 (
    (pIndexAddr 2 x2 x0).bind fun t4 =>
    (pLoadN 2 t4).bind fun t5 =>
    (G 53 [t5]).bind fun t6 =>
    (fin false t6).bind fun t7 =>
    (pCells 2 t7).bind fun t8 =>
    brn (pFit ((rLenN r1) + (rLenN [[cGet t8 0, cGet t8 1]])) 40) (
      (pBin .add false x0 (vi 1)).bind fun t9 =>
      L53_0 t9 x1 x2 x3 x4 r0 (rApp r1 [[cGet t8 0, cGet t8 1]])) (
      none)) (
    brn (okA x4) (
      some ((A.agg [x4, A.sl 2 r1], []))) (
      none)) :=
  (H_eq Tryz.func53 rfl).trans (by kernel_rfl)
theorem c84_0 (x0 x1 x2 : A) : C84_0 x0 x1 x2 =
  (C134_0 (vi 2) x0 x1 x2).bind fun t0 =>
  (hD t0 0).bind fun t1 =>
  (hD t0 1).bind fun t2 =>
  (hD t0 2).bind fun t3 =>
  (hD t0 3).bind fun t4 =>
  (pBin .add false (vi 1) t4).bind fun t5 =>
  brn (okA t5) (
    brn (okA t5) (
      L84c0_0 t1 t2 t3 (vi 0) t5 [[sv [97]], [sv [98]], [sv [102]], [sv [103]], [sv [112]], [sv [113]], [sv [114]]] [] [] [] []) (
      none)) (
    none) :=
  (V_eq rfl Tryz.func84 rfl rfl).trans (by kernel_rfl)
theorem l84c0_0 (x0 x1 x2 x3 x4 : A) (r0 r1 r2 r3 r4 : List (List A)) : L84c0_0 x0 x1 x2 x3 x4 r0 r1 r2 r3 r4 =
  (pBin .gtr false (rLen r0) (vi 0)).bind fun t6 =>
  (pBool t6).bind fun t7 =>
  brn t7 (
    (C134_0 (rLen r0) x0 x1 x2).bind fun t8 =>
    (hD t8 0).bind fun t9 =>
    (hD t8 1).bind fun t10 =>
    (hD t8 2).bind fun t11 =>
    (hD t8 3).bind fun t12 =>
    (pIx (rLenN r0) t12).bind fun t13 =>
    (pRowP r0 t13 0).bind fun t14 =>
    brn (okA t14) (
      brn (pFit ((rLenN r3) + (rLenN [[t14]])) 16) (
        (pB (rCnt r0) (rRem r0 0) (some t12)).bind fun t15 =>
        brn (pFit (rLenN (rWin r0 0 (nSub t15 0))) 16) (
          (pBin .add false t12 (vi 1)).bind fun t16 =>
          (pB (rCnt r0) (rRem r0 0) none).bind fun t17 =>
          (pB 0 t17 (some t16)).bind fun t18 =>
          brn (pFit ((rLenN (rWin r0 0 (nSub t15 0))) + (rLenN (rWin r0 (0 + t18) (nSub t17 t18)))) 16) (
            (C135_0 t9 t10 t11 [[vi 0], [vi 0], [vi 0], [vi 1], [vi 2]]).bind fun t19 =>
            (hD t19 0).bind fun t20 =>
            (hD t19 1).bind fun t21 =>
            (hD t19 2).bind fun t22 =>
            (hD t19 3).bind fun t23 =>
            (pBin .add false x4 t23).bind fun t24 =>
            brn (okA t24) (
              brn (pFit ((rLenN r4) + (rLenN [[t24]])) 8) (
                L84c0_0 t20 t21 t22 x3 x4 (rApp (rWin r0 0 (nSub t15 0)) (rWin r0 (0 + t18) (nSub t17 t18))) r1 r2 (rApp r3 [[t14]]) (rApp r4 [[t24]])) (
                none)) (
              none)) (
            none)) (
          none)) (
        none)) (
      none)) (
    (C134_0 (vi 40) x0 x1 x2).bind fun t25 =>
    (hD t25 0).bind fun t26 =>
    (hD t25 1).bind fun t27 =>
    (hD t25 2).bind fun t28 =>
    (hD t25 3).bind fun t29 =>
    (pBin .eql false t29 (vi 0)).bind fun t30 =>
    (pBool t30).bind fun t31 =>
    brn t31 (
      (C136_0 t26 t27 t28 [[sv [88]], [sv []], [sv [102]], [sv [61]], [sv [120, 95, 49]]]).bind fun t32 =>
      (hD t32 0).bind fun t33 =>
      (hD t32 1).bind fun t34 =>
      (hD t32 2).bind fun t35 =>
      (hD t32 3).bind fun t36 =>
      (pIx (rLenN r3) (vi 0)).bind fun t37 =>
      brn (okA t36) (
        (rGet r3 t37).bind fun t38 =>
        brn (okA x4) (
          some ((A.top, [t33, t34, t35, A.agg [A.sl 1 (rSet r3 t37 (cOver t38 0 [t36])), A.sl 1 r4, x4]]))) (
          none)) (
        none)) (
      (pBin .eql false t29 (vi 1)).bind fun t39 =>
      (pBool t39).bind fun t40 =>
      brn t40 (
        (C134_0 (vi 7) t26 t27 t28).bind fun t41 =>
        (hD t41 0).bind fun t42 =>
        (hD t41 1).bind fun t43 =>
        (hD t41 2).bind fun t44 =>
        (hD t41 3).bind fun t45 =>
        (C135_0 t42 t43 t44 [[vi 0], [vi 101], [vi 100], [vi (-1)]]).bind fun t46 =>
        (hD t46 0).bind fun t47 =>
        (hD t46 1).bind fun t48 =>
        (hD t46 2).bind fun t49 =>
        (hD t46 3).bind fun t50 =>
        (pIx (rLenN r4) t45).bind fun t51 =>
        brn (okA t50) (
          (rGet r4 t51).bind fun t52 =>
          brn (okA x4) (
            some ((A.top, [t47, t48, t49, A.agg [A.sl 1 r3, A.sl 1 (rSet r4 t51 (cOver t52 0 [t50])), x4]]))) (
            none)) (
          none)) (
        (pBin .eql false t29 (vi 2)).bind fun t53 =>
        (pBool t53).bind fun t54 =>
        brn t54 (
          (C135_0 t26 t27 t28 [[vi 0], [vi 3], [vi 101]]).bind fun t55 =>
          (hD t55 0).bind fun t56 =>
          (hD t55 1).bind fun t57 =>
          (hD t55 2).bind fun t58 =>
          (hD t55 3).bind fun t59 =>
          brn (okA t59) (
            brn (okA t59) (
              some ((A.top, [t56, t57, t58, A.agg [A.sl 1 r3, A.sl 1 r4, t59]]))) (
              none)) (
            none)) (
          (pBin .eql false t29 (vi 3)).bind fun t60 =>
          (pBool t60).bind fun t61 =>
          brn t61 (
            (pB (rCnt r4) (rRem r4 0) none).bind fun t62 =>
            (pB 0 t62 (some (vi 1))).bind fun t63 =>
            brn (okA x4) (
              some ((A.top, [t26, t27, t28, A.agg [A.sl 1 r3, A.sl 1 (List.take (nSub t62 t63) (List.drop (0 + t63) r4)), x4]]))) (
              none)) (
            (pBin .eql false t29 (vi 4)).bind fun t64 =>
            (pBool t64).bind fun t65 =>
            brn t65 (
              (pB (rCnt r3) (rRem r3 0) none).bind fun t66 =>
              (pB 0 t66 (some (vi 1))).bind fun t67 =>
              (pB (rCnt r4) (rRem r4 0) none).bind fun t68 =>
              (pB 0 t68 (some (vi 1))).bind fun t69 =>
              brn (okA x4) (
                some ((A.top, [t26, t27, t28, A.agg [A.sl 1 (List.take (nSub t66 t67) (List.drop (0 + t67) r3)), A.sl 1 (List.take (nSub t68 t69) (List.drop (0 + t69) r4)), x4]]))) (
                none)) (
              brn (okA x4) (
                some ((A.top, [t26, t27, t28, A.agg [A.sl 1 r3, A.sl 1 r4, x4]]))) (
                none))))))) :=
  (H_eq Tryz.func84 rfl).trans (by kernel_rfl)
theorem c85_0 (x0 x1 x2 : A) : C85_0 x0 x1 x2 =
  (C137_0 x0 x1 x2).bind fun t0 =>
  (hD t0 0).bind fun t1 =>
  (hD t0 1).bind fun t2 =>
  (hD t0 2).bind fun t3 =>
  (hD t0 3).bind fun t4 =>
  (hR 2 t0 4).bind fun t5 =>
  brn (okA t4) (
    (C137_0 t1 t2 t3).bind fun t6 =>
    (hD t6 0).bind fun t7 =>
    (hD t6 1).bind fun t8 =>
    (hD t6 2).bind fun t9 =>
    (hD t6 3).bind fun t10 =>
    (hR 2 t6 4).bind fun t11 =>
    brn (okA t10) (
      (C134_0 (vi 6) t7 t8 t9).bind fun t12 =>
      (hD t12 0).bind fun t13 =>
      (hD t12 1).bind fun t14 =>
      (hD t12 2).bind fun t15 =>
      (hD t12 3).bind fun t16 =>
      (pBin .eql false t16 (vi 0)).bind fun t17 =>
      (pBool t17).bind fun t18 =>
      brn t18 (
        (G 53 [A.agg [t4, A.sl 2 t5]]).bind fun t19 =>
        (fin false t19).bind fun t20 =>
        (pCells 2 t20).bind fun t21 =>
        (C94_0 (vi 20) t13 t14 t15).bind fun t22 =>
        (hD t22 0).bind fun t23 =>
        (hD t22 1).bind fun t24 =>
        (hD t22 2).bind fun t25 =>
        (hD t22 3).bind fun t26 =>
        (pBool t26).bind fun t27 =>
        brn t27 (
          (C138_0 t23 t24 t25).bind fun t28 =>
          (hD t28 0).bind fun t29 =>
          (hD t28 1).bind fun t30 =>
          (hD t28 2).bind fun t31 =>
          (hD t28 3).bind fun t32 =>
          (pCells 2 t32).bind fun t33 =>
          brn (okA t4) (
            brn (okA (cGet t33 0)) (
              brn (okA (cGet t33 1)) (
                some ((A.top, [t29, t30, t31, A.tup [A.agg [t4, A.sl 2 t5], A.agg [cGet t33 0, cGet t33 1]]]))) (
                none)) (
              none)) (
            none)) (
          brn (okA t4) (
            some ((A.top, [t23, t24, t25, A.tup [A.agg [t4, A.sl 2 t5], A.agg [sv [102], A.sl 2 [[cGet t21 0, cGet t21 1]]]]]))) (
            none))) (
        (pBin .eql false t16 (vi 1)).bind fun t34 =>
        (pBool t34).bind fun t35 =>
        brn t35 (
          (G 53 [A.agg [t10, A.sl 2 t11]]).bind fun t36 =>
          (fin false t36).bind fun t37 =>
          (C137_0 t13 t14 t15).bind fun t38 =>
          (hD t38 0).bind fun t39 =>
          (hD t38 1).bind fun t40 =>
          (hD t38 2).bind fun t41 =>
          (hD t38 3).bind fun t42 =>
          (hR 2 t38 4).bind fun t43 =>
          (pCells 2 t37).bind fun t44 =>
          brn (okA t42) (
            (C94_0 (vi 20) t39 t40 t41).bind fun t45 =>
            (hD t45 0).bind fun t46 =>
            (hD t45 1).bind fun t47 =>
            (hD t45 2).bind fun t48 =>
            (hD t45 3).bind fun t49 =>
            (pBool t49).bind fun t50 =>
            brn t50 (
              (C138_0 t46 t47 t48).bind fun t51 =>
              (hD t51 0).bind fun t52 =>
              (hD t51 1).bind fun t53 =>
              (hD t51 2).bind fun t54 =>
              (hD t51 3).bind fun t55 =>
              (pCells 2 t55).bind fun t56 =>
              brn (okA (cGet t56 0)) (
                brn (okA (cGet t56 1)) (
                  some ((A.top, [t52, t53, t54, A.tup [A.agg [sv [103], A.sl 2 [[cGet t44 0, cGet t44 1], [t42, A.sl 2 t43]]], A.agg [cGet t56 0, cGet t56 1]]]))) (
                  none)) (
                none)) (
              brn (okA t10) (
                some ((A.top, [t46, t47, t48, A.tup [A.agg [sv [103], A.sl 2 [[cGet t44 0, cGet t44 1], [t42, A.sl 2 t43]]], A.agg [t10, A.sl 2 t11]]]))) (
                none))) (
            none)) (
          (pBin .eql false t16 (vi 2)).bind fun t57 =>
          (pBool t57).bind fun t58 =>
          brn t58 (
            (G 53 [A.agg [t4, A.sl 2 t5]]).bind fun t59 =>
            (fin false t59).bind fun t60 =>
            (C137_0 t13 t14 t15).bind fun t61 =>
            (hD t61 0).bind fun t62 =>
            (hD t61 1).bind fun t63 =>
            (hD t61 2).bind fun t64 =>
            (hD t61 3).bind fun t65 =>
            (hR 2 t61 4).bind fun t66 =>
            (pCells 2 t60).bind fun t67 =>
            brn (okA t65) (
              (G 53 [A.agg [t4, A.sl 2 t5]]).bind fun t68 =>
              (fin false t68).bind fun t69 =>
              (C137_0 t62 t63 t64).bind fun t70 =>
              (hD t70 0).bind fun t71 =>
              (hD t70 1).bind fun t72 =>
              (hD t70 2).bind fun t73 =>
              (hD t70 3).bind fun t74 =>
              (hR 2 t70 4).bind fun t75 =>
              (pCells 2 t69).bind fun t76 =>
              brn (okA t74) (
                (C94_0 (vi 20) t71 t72 t73).bind fun t77 =>
                (hD t77 0).bind fun t78 =>
                (hD t77 1).bind fun t79 =>
                (hD t77 2).bind fun t80 =>
                (hD t77 3).bind fun t81 =>
                (pBool t81).bind fun t82 =>
                brn t82 (
                  (C138_0 t78 t79 t80).bind fun t83 =>
                  (hD t83 0).bind fun t84 =>
                  (hD t83 1).bind fun t85 =>
                  (hD t83 2).bind fun t86 =>
                  (hD t83 3).bind fun t87 =>
                  (pCells 2 t87).bind fun t88 =>
                  brn (okA (cGet t88 0)) (
                    brn (okA (cGet t88 1)) (
                      some ((A.top, [t84, t85, t86, A.tup [A.agg [sv [103], A.sl 2 [[cGet t76 0, cGet t76 1], [t74, A.sl 2 t75]]], A.agg [cGet t88 0, cGet t88 1]]]))) (
                      none)) (
                    none)) (
                  some ((A.top, [t78, t79, t80, A.tup [A.agg [sv [103], A.sl 2 [[cGet t76 0, cGet t76 1], [t74, A.sl 2 t75]]], A.agg [sv [103], A.sl 2 [[cGet t67 0, cGet t67 1], [t65, A.sl 2 t66]]]]])))) (
                none)) (
              none)) (
            (C94_0 (vi 20) t13 t14 t15).bind fun t89 =>
            (hD t89 0).bind fun t90 =>
            (hD t89 1).bind fun t91 =>
            (hD t89 2).bind fun t92 =>
            (hD t89 3).bind fun t93 =>
            (pBool t93).bind fun t94 =>
            brn t94 (
              (C138_0 t90 t91 t92).bind fun t95 =>
              (hD t95 0).bind fun t96 =>
              (hD t95 1).bind fun t97 =>
              (hD t95 2).bind fun t98 =>
              (hD t95 3).bind fun t99 =>
              (pCells 2 t99).bind fun t100 =>
              brn (okA t4) (
                brn (okA (cGet t100 0)) (
                  brn (okA (cGet t100 1)) (
                    some ((A.top, [t96, t97, t98, A.tup [A.agg [t4, A.sl 2 t5], A.agg [cGet t100 0, cGet t100 1]]]))) (
                    none)) (
                  none)) (
                none)) (
              brn (okA t4) (
                brn (okA t10) (
                  some ((A.top, [t90, t91, t92, A.tup [A.agg [t4, A.sl 2 t5], A.agg [t10, A.sl 2 t11]]]))) (
                  none)) (
                none)))))) (
      none)) (
    none) :=
  (V_eq rfl Tryz.func85 rfl rfl).trans (by kernel_rfl)
theorem c94_0 (x0 x1 x2 x3 : A) : C94_0 x0 x1 x2 x3 =
  (C134_0 x0 x1 x2 x3).bind fun t0 =>
  (hD t0 0).bind fun t1 =>
  (hD t0 1).bind fun t2 =>
  (hD t0 2).bind fun t3 =>
  (hD t0 3).bind fun t4 =>
  (pBin .eql false t4 (vi 0)).bind fun t5 =>
  some ((A.top, [t1, t2, t3, t5])) :=
  (V_eq rfl Tryz.func94 rfl rfl).trans (by kernel_rfl)
theorem c95_0 (x0 x1 x2 : A) : C95_0 x0 x1 x2 =
  (C134_0 (vi 8) x0 x1 x2).bind fun t0 =>
  (hD t0 0).bind fun t1 =>
  (hD t0 1).bind fun t2 =>
  (hD t0 2).bind fun t3 =>
  (hD t0 3).bind fun t4 =>
  (pBin .eql false t4 (vi 0)).bind fun t5 =>
  (pBool t5).bind fun t6 =>
  brn t6 (
    (pBool t5).bind fun t7 =>
    brn t7 (
      (C137_0 t1 t2 t3).bind fun t8 =>
      (hD t8 0).bind fun t9 =>
      (hD t8 1).bind fun t10 =>
      (hD t8 2).bind fun t11 =>
      (hD t8 3).bind fun t12 =>
      (hR 2 t8 4).bind fun t13 =>
      (C137_0 t9 t10 t11).bind fun t14 =>
      (hD t14 0).bind fun t15 =>
      (hD t14 1).bind fun t16 =>
      (hD t14 2).bind fun t17 =>
      (hD t14 3).bind fun t18 =>
      (hR 2 t14 4).bind fun t19 =>
      brn (okA t12) (
        brn (okA t18) (
          some ((A.top, [t15, t16, t17, sv [61], A.sl 2 [[t12, A.sl 2 t13], [t18, A.sl 2 t19]]]))) (
          none)) (
        none)) (
      (pBin .eql false t4 (vi 2)).bind fun t20 =>
      (pBool t20).bind fun t21 =>
      brn t21 (
        some ((A.top, [t1, t2, t3, sv [114], A.sl 2 []]))) (
        (pBin .eql false t4 (vi 3)).bind fun t22 =>
        (pBool t22).bind fun t23 =>
        brn t23 (
          (pBool t22).bind fun t24 =>
          brn t24 (
            (C145_0 (vi 2) t1 t2 t3).bind fun t25 =>
            (hD t25 0).bind fun t26 =>
            (hD t25 1).bind fun t27 =>
            (hD t25 2).bind fun t28 =>
            (hD t25 3).bind fun t29 =>
            (hR 2 t25 4).bind fun t30 =>
            (C145_0 (vi 2) t26 t27 t28).bind fun t31 =>
            (hD t31 0).bind fun t32 =>
            (hD t31 1).bind fun t33 =>
            (hD t31 2).bind fun t34 =>
            (hD t31 3).bind fun t35 =>
            (hR 2 t31 4).bind fun t36 =>
            brn (okA t29) (
              brn (okA t35) (
                some ((A.top, [t32, t33, t34, sv [113], A.sl 2 [[t29, A.sl 2 t30], [t35, A.sl 2 t36]]]))) (
                none)) (
              none)) (
            (C145_0 (vi 2) t1 t2 t3).bind fun t37 =>
            (hD t37 0).bind fun t38 =>
            (hD t37 1).bind fun t39 =>
            (hD t37 2).bind fun t40 =>
            (hD t37 3).bind fun t41 =>
            (hR 2 t37 4).bind fun t42 =>
            brn (okA t41) (
              some ((A.top, [t38, t39, t40, sv [112], A.sl 2 [[t41, A.sl 2 t42]]]))) (
              none))) (
          (pBin .eql false t4 (vi 4)).bind fun t43 =>
          (pBool t43).bind fun t44 =>
          brn t44 (
            (C145_0 (vi 2) t1 t2 t3).bind fun t45 =>
            (hD t45 0).bind fun t46 =>
            (hD t45 1).bind fun t47 =>
            (hD t45 2).bind fun t48 =>
            (hD t45 3).bind fun t49 =>
            (hR 2 t45 4).bind fun t50 =>
            (C145_0 (vi 2) t46 t47 t48).bind fun t51 =>
            (hD t51 0).bind fun t52 =>
            (hD t51 1).bind fun t53 =>
            (hD t51 2).bind fun t54 =>
            (hD t51 3).bind fun t55 =>
            (hR 2 t51 4).bind fun t56 =>
            brn (okA t49) (
              brn (okA t55) (
                some ((A.top, [t52, t53, t54, sv [113], A.sl 2 [[t49, A.sl 2 t50], [t55, A.sl 2 t56]]]))) (
                none)) (
              none)) (
            (C145_0 (vi 2) t1 t2 t3).bind fun t57 =>
            (hD t57 0).bind fun t58 =>
            (hD t57 1).bind fun t59 =>
            (hD t57 2).bind fun t60 =>
            (hD t57 3).bind fun t61 =>
            (hR 2 t57 4).bind fun t62 =>
            brn (okA t61) (
              some ((A.top, [t58, t59, t60, sv [112], A.sl 2 [[t61, A.sl 2 t62]]]))) (
              none)))))) (
    (pBin .eql false t4 (vi 1)).bind fun t63 =>
    (pBool t63).bind fun t64 =>
    brn t64 (
      (C137_0 t1 t2 t3).bind fun t65 =>
      (hD t65 0).bind fun t66 =>
      (hD t65 1).bind fun t67 =>
      (hD t65 2).bind fun t68 =>
      (hD t65 3).bind fun t69 =>
      (hR 2 t65 4).bind fun t70 =>
      (C137_0 t66 t67 t68).bind fun t71 =>
      (hD t71 0).bind fun t72 =>
      (hD t71 1).bind fun t73 =>
      (hD t71 2).bind fun t74 =>
      (hD t71 3).bind fun t75 =>
      (hR 2 t71 4).bind fun t76 =>
      brn (okA t69) (
        brn (okA t75) (
          some ((A.top, [t72, t73, t74, sv [61], A.sl 2 [[t69, A.sl 2 t70], [t75, A.sl 2 t76]]]))) (
          none)) (
        none)) (
      (pBin .eql false t4 (vi 2)).bind fun t77 =>
      (pBool t77).bind fun t78 =>
      brn t78 (
        some ((A.top, [t1, t2, t3, sv [114], A.sl 2 []]))) (
        (pBin .eql false t4 (vi 3)).bind fun t79 =>
        (pBool t79).bind fun t80 =>
        brn t80 (
          (pBool t79).bind fun t81 =>
          brn t81 (
            (C145_0 (vi 2) t1 t2 t3).bind fun t82 =>
            (hD t82 0).bind fun t83 =>
            (hD t82 1).bind fun t84 =>
            (hD t82 2).bind fun t85 =>
            (hD t82 3).bind fun t86 =>
            (hR 2 t82 4).bind fun t87 =>
            (C145_0 (vi 2) t83 t84 t85).bind fun t88 =>
            (hD t88 0).bind fun t89 =>
            (hD t88 1).bind fun t90 =>
            (hD t88 2).bind fun t91 =>
            (hD t88 3).bind fun t92 =>
            (hR 2 t88 4).bind fun t93 =>
            brn (okA t86) (
              brn (okA t92) (
                some ((A.top, [t89, t90, t91, sv [113], A.sl 2 [[t86, A.sl 2 t87], [t92, A.sl 2 t93]]]))) (
                none)) (
              none)) (
            (C145_0 (vi 2) t1 t2 t3).bind fun t94 =>
            (hD t94 0).bind fun t95 =>
            (hD t94 1).bind fun t96 =>
            (hD t94 2).bind fun t97 =>
            (hD t94 3).bind fun t98 =>
            (hR 2 t94 4).bind fun t99 =>
            brn (okA t98) (
              some ((A.top, [t95, t96, t97, sv [112], A.sl 2 [[t98, A.sl 2 t99]]]))) (
              none))) (
          (pBin .eql false t4 (vi 4)).bind fun t100 =>
          (pBool t100).bind fun t101 =>
          brn t101 (
            (C145_0 (vi 2) t1 t2 t3).bind fun t102 =>
            (hD t102 0).bind fun t103 =>
            (hD t102 1).bind fun t104 =>
            (hD t102 2).bind fun t105 =>
            (hD t102 3).bind fun t106 =>
            (hR 2 t102 4).bind fun t107 =>
            (C145_0 (vi 2) t103 t104 t105).bind fun t108 =>
            (hD t108 0).bind fun t109 =>
            (hD t108 1).bind fun t110 =>
            (hD t108 2).bind fun t111 =>
            (hD t108 3).bind fun t112 =>
            (hR 2 t108 4).bind fun t113 =>
            brn (okA t106) (
              brn (okA t112) (
                some ((A.top, [t109, t110, t111, sv [113], A.sl 2 [[t106, A.sl 2 t107], [t112, A.sl 2 t113]]]))) (
                none)) (
              none)) (
            (C145_0 (vi 2) t1 t2 t3).bind fun t114 =>
            (hD t114 0).bind fun t115 =>
            (hD t114 1).bind fun t116 =>
            (hD t114 2).bind fun t117 =>
            (hD t114 3).bind fun t118 =>
            (hR 2 t114 4).bind fun t119 =>
            brn (okA t118) (
              some ((A.top, [t115, t116, t117, sv [112], A.sl 2 [[t118, A.sl 2 t119]]]))) (
              none)))))) :=
  (V_eq rfl Tryz.func95 rfl rfl).trans (by kernel_rfl)
theorem c134_0 (x0 x1 x2 x3 : A) : C134_0 x0 x1 x2 x3 =
  (pBin .leq false x0 (vi 1)).bind fun t0 =>
  (pBool t0).bind fun t1 =>
  brn t1 (
    some ((A.top, [x1, x2, x3, vi 0]))) (
    (C178_0 x1 x2 x3).bind fun t2 =>
    (hD t2 0).bind fun t3 =>
    (hD t2 1).bind fun t4 =>
    (hD t2 2).bind fun t5 =>
    (hD t2 3).bind fun t6 =>
    (pBin .gtr false x0 (vi 200)).bind fun t7 =>
    (pBool t7).bind fun t8 =>
    brn t8 (
      (pBin .mul false t6 (vi 256)).bind fun t9 =>
      (C178_0 t3 t4 t5).bind fun t10 =>
      (hD t10 0).bind fun t11 =>
      (hD t10 1).bind fun t12 =>
      (hD t10 2).bind fun t13 =>
      (hD t10 3).bind fun t14 =>
      (pBin .add false t9 t14).bind fun t15 =>
      (pBin .rem false t15 x0).bind fun t16 =>
      some ((A.top, [t11, t12, t13, t16]))) (
      (pBin .rem false t6 x0).bind fun t17 =>
      some ((A.top, [t3, t4, t5, t17])))) :=
  (V_eq rfl Tryz.func134 rfl rfl).trans (by kernel_rfl)
theorem c135_0 (x0 x1 x2 : A) (r0 : List (List A)) : C135_0 x0 x1 x2 r0 =
  (C134_0 (rLen r0) x0 x1 x2).bind fun t0 =>
  (hD t0 0).bind fun t1 =>
  (hD t0 1).bind fun t2 =>
  (hD t0 2).bind fun t3 =>
  (hD t0 3).bind fun t4 =>
  (pIx (rLenN r0) t4).bind fun t5 =>
  (pRowP r0 t5 0).bind fun t6 =>
  some ((A.top, [t1, t2, t3, t6])) :=
  (V_eq rfl Tryz.func135 rfl rfl).trans (by kernel_rfl)
theorem c136_0 (x0 x1 x2 : A) (r0 : List (List A)) : C136_0 x0 x1 x2 r0 =
  (C134_0 (rLen r0) x0 x1 x2).bind fun t0 =>
  (hD t0 0).bind fun t1 =>
  (hD t0 1).bind fun t2 =>
  (hD t0 2).bind fun t3 =>
  (hD t0 3).bind fun t4 =>
  (pIx (rLenN r0) t4).bind fun t5 =>
  (pRowP r0 t5 0).bind fun t6 =>
  some ((A.top, [t1, t2, t3, t6])) :=
  (V_eq rfl Tryz.func136 rfl rfl).trans (by kernel_rfl)
theorem c137_0 (x0 x1 x2 : A) : C137_0 x0 x1 x2 =
  (C134_0 (vi 3) x0 x1 x2).bind fun t0 =>
  (hD t0 0).bind fun t1 =>
  (hD t0 1).bind fun t2 =>
  (hD t0 2).bind fun t3 =>
  (hD t0 3).bind fun t4 =>
  (pBin .add false (vi 1) t4).bind fun t5 =>
  (C145_0 t5 t1 t2 t3).bind fun t6 =>
  (hD t6 0).bind fun t7 =>
  (hD t6 1).bind fun t8 =>
  (hD t6 2).bind fun t9 =>
  (hD t6 3).bind fun t10 =>
  (hR 2 t6 4).bind fun t11 =>
  brn (okA t10) (
    some ((A.top, [t7, t8, t9, t10, A.sl 2 t11]))) (
    none) :=
  (V_eq rfl Tryz.func137 rfl rfl).trans (by kernel_rfl)
theorem c138_0 (x0 x1 x2 : A) : C138_0 x0 x1 x2 =
  (C137_0 x0 x1 x2).bind fun t0 =>
  (hD t0 0).bind fun t1 =>
  (hD t0 1).bind fun t2 =>
  (hD t0 2).bind fun t3 =>
  (hD t0 3).bind fun t4 =>
  (hR 2 t0 4).bind fun t5 =>
  brn (okA t4) (
    (C134_0 (vi 24) t1 t2 t3).bind fun t6 =>
    (hD t6 0).bind fun t7 =>
    (hD t6 1).bind fun t8 =>
    (hD t6 2).bind fun t9 =>
    (hD t6 3).bind fun t10 =>
    (pBin .eql false t10 (vi 0)).bind fun t11 =>
    (pBool t11).bind fun t12 =>
    brn t12 (
      (C136_0 t7 t8 t9 [[sv []], [sv [116, 114, 117, 101]], [sv [116, 114, 117, 116, 104]], [sv [105, 102]], [sv [88, 121, 122, 57]], [sv [88, 121, 122, 57, 57]], [sv [120, 65]], [sv [97, 95, 98]], [sv [97, 98, 99, 100, 101, 102]], [sv [97, 98, 99, 100, 101, 102, 103]], [sv [95, 97]], [sv [57]], [sv [88, 95]], [sv [61]]]).bind fun t13 =>
      (hD t13 0).bind fun t14 =>
      (hD t13 1).bind fun t15 =>
      (hD t13 2).bind fun t16 =>
      (hD t13 3).bind fun t17 =>
      brn (okA t17) (
        brn (okA t17) (
          some ((A.top, [t14, t15, t16, A.agg [t17, A.sl 2 t5]]))) (
          none)) (
        none)) (
      (pBin .eql false t10 (vi 1)).bind fun t18 =>
      (pBool t18).bind fun t19 =>
      brn t19 (
        (C134_0 (vi 3) t7 t8 t9).bind fun t20 =>
        (hD t20 0).bind fun t21 =>
        (hD t20 1).bind fun t22 =>
        (hD t20 2).bind fun t23 =>
        (hD t20 3).bind fun t24 =>
        (pBin .add false (vi 7) t24).bind fun t25 =>
        (C179_0 t25 t21 t22 t23).bind fun t26 =>
        (hD t26 0).bind fun t27 =>
        (hD t26 1).bind fun t28 =>
        (hD t26 2).bind fun t29 =>
        (hD t26 3).bind fun t30 =>
        (hR 2 t26 4).bind fun t31 =>
        brn (okA t30) (
          some ((A.top, [t27, t28, t29, A.agg [t30, A.sl 2 t31]]))) (
          none)) (
        (pBin .eql false t10 (vi 2)).bind fun t32 =>
        (pBool t32).bind fun t33 =>
        brn t33 (
          (C180_0 t7 t8 t9).bind fun t34 =>
          (hD t34 0).bind fun t35 =>
          (hD t34 1).bind fun t36 =>
          (hD t34 2).bind fun t37 =>
          (hD t34 3).bind fun t38 =>
          (pCells 2 t38).bind fun t39 =>
          some ((A.top, [t35, t36, t37, A.agg [cGet t39 0, cGet t39 1]]))) (
          (pBin .eql false t10 (vi 3)).bind fun t40 =>
          (pBool t40).bind fun t41 =>
          brn t41 (
            (C137_0 t7 t8 t9).bind fun t42 =>
            (hD t42 0).bind fun t43 =>
            (hD t42 1).bind fun t44 =>
            (hD t42 2).bind fun t45 =>
            (hD t42 3).bind fun t46 =>
            (hR 2 t42 4).bind fun t47 =>
            (C137_0 t43 t44 t45).bind fun t48 =>
            (hD t48 0).bind fun t49 =>
            (hD t48 1).bind fun t50 =>
            (hD t48 2).bind fun t51 =>
            (hD t48 3).bind fun t52 =>
            (hR 2 t48 4).bind fun t53 =>
            (C137_0 t49 t50 t51).bind fun t54 =>
            (hD t54 0).bind fun t55 =>
            (hD t54 1).bind fun t56 =>
            (hD t54 2).bind fun t57 =>
            (hD t54 3).bind fun t58 =>
            (hR 2 t54 4).bind fun t59 =>
            brn (okA t46) (
              brn (okA t52) (
                brn (okA t58) (
                  brn (pFit ((rLenN t5) + (rLenN [[t46, A.sl 2 t47], [t52, A.sl 2 t53], [t58, A.sl 2 t59]])) 40) (
                    brn (okA t4) (
                      some ((A.top, [t55, t56, t57, A.agg [t4, A.sl 2 (rApp t5 [[t46, A.sl 2 t47], [t52, A.sl 2 t53], [t58, A.sl 2 t59]])]]))) (
                      none)) (
                    none)) (
                  none)) (
                none)) (
              none)) (
            (pBin .eql false t10 (vi 4)).bind fun t60 =>
            (pBool t60).bind fun t61 =>
            brn t61 (
              (pBin .gtr false (rLen t5) (vi 0)).bind fun t62 =>
              (pBool t62).bind fun t63 =>
              brn t63 (
                (C136_0 t7 t8 t9 [[sv [61]], [sv []], [sv [81, 49]], [sv [98, 50]]]).bind fun t64 =>
                (hD t64 0).bind fun t65 =>
                (hD t64 1).bind fun t66 =>
                (hD t64 2).bind fun t67 =>
                (hD t64 3).bind fun t68 =>
                (pIx (rLenN t5) (vi 0)).bind fun t69 =>
                (pRowP t5 t69 1).bind fun t70 =>
                (buildA (fun f =>
  match (Go.Proofs.YtjclanocnkankaaGreat.K.at 138).D 33 with
  | some i =>
    match i.kind with
    | Go.Proofs.YtjclanocnkankaaGreat.Abs.TK.struct fs =>
      match fs[f]? with
      | some (off, t) =>
        match (Go.Proofs.YtjclanocnkankaaGreat.K.at 138).D t with
        | some j => if j.kind.known = true then some (off, j) else none
        | none => none
      | none => none
    | x => none
  | none => none) [sv [], A.sl 2 []] [(0, t68), (1, t70)]).bind fun t71 =>
                (pIx (rLenN t5) (vi 0)).bind fun t72 =>
                (pCells 2 t71).bind fun t73 =>
                (rGet t5 t72).bind fun t74 =>
                brn (okA t4) (
                  some ((A.top, [t65, t66, t67, A.agg [t4, A.sl 2 (rSet t5 t72 (cOver t74 0 [cGet t73 0, cGet t73 1]))]]))) (
                  none)) (
                brn (okA t4) (
                  some ((A.top, [t7, t8, t9, A.agg [t4, A.sl 2 t5]]))) (
                  none))) (
              brn (okA t4) (
                some ((A.top, [t7, t8, t9, A.agg [t4, A.sl 2 t5]]))) (
                none))))))) (
    none) :=
  (V_eq rfl Tryz.func138 rfl rfl).trans (by kernel_rfl)
theorem c145_0 (x0 x1 x2 x3 : A) : C145_0 x0 x1 x2 x3 =
  (pBin .leq false x0 (vi 1)).bind fun t0 =>
  (pWant t0 false).bind fun t1 =>
  (pWant t0 false).bind fun t2 =>
  brn t2 (
    (C94_0 (vi 3) x1 x2 x3).bind fun t3 =>
    (hD t3 0).bind fun t4 =>
    (hD t3 1).bind fun t5 =>
    (hD t3 2).bind fun t6 =>
    (hD t3 3).bind fun t7 =>
    (pPick t0 (vb true) t7).bind fun t8 =>
    (pBool t8).bind fun t9 =>
    brn t9 (
      (C136_0 t4 t5 t6 [[sv [88]], [sv [89]], [sv [90]], [sv [97]], [sv [98]], [sv [88]], [sv [97]]]).bind fun t10 =>
      (hD t10 0).bind fun t11 =>
      (hD t10 1).bind fun t12 =>
      (hD t10 2).bind fun t13 =>
      (hD t10 3).bind fun t14 =>
      brn (okA t14) (
        brn (okA t14) (
          some ((A.top, [t11, t12, t13, t14, A.sl 2 []]))) (
          none)) (
        none)) (
      (C94_0 (vi 2) t4 t5 t6).bind fun t15 =>
      (hD t15 0).bind fun t16 =>
      (hD t15 1).bind fun t17 =>
      (hD t15 2).bind fun t18 =>
      (hD t15 3).bind fun t19 =>
      (pBool t19).bind fun t20 =>
      brn t20 (
        (pBin .sub false x0 (vi 1)).bind fun t21 =>
        (C145_0 t21 t16 t17 t18).bind fun t22 =>
        (hD t22 0).bind fun t23 =>
        (hD t22 1).bind fun t24 =>
        (hD t22 2).bind fun t25 =>
        (hD t22 3).bind fun t26 =>
        (hR 2 t22 4).bind fun t27 =>
        brn (okA t26) (
          some ((A.top, [t23, t24, t25, sv [102], A.sl 2 [[t26, A.sl 2 t27]]]))) (
          none)) (
        (pBin .sub false x0 (vi 1)).bind fun t28 =>
        (C145_0 t28 t16 t17 t18).bind fun t29 =>
        (hD t29 0).bind fun t30 =>
        (hD t29 1).bind fun t31 =>
        (hD t29 2).bind fun t32 =>
        (hD t29 3).bind fun t33 =>
        (hR 2 t29 4).bind fun t34 =>
        (pBin .sub false x0 (vi 1)).bind fun t35 =>
        (C145_0 t35 t30 t31 t32).bind fun t36 =>
        (hD t36 0).bind fun t37 =>
        (hD t36 1).bind fun t38 =>
        (hD t36 2).bind fun t39 =>
        (hD t36 3).bind fun t40 =>
        (hR 2 t36 4).bind fun t41 =>
        brn (okA t33) (
          brn (okA t40) (
            some ((A.top, [t37, t38, t39, sv [103], A.sl 2 [[t33, A.sl 2 t34], [t40, A.sl 2 t41]]]))) (
            none)) (
          none)))) (
    (pPick t0 (vb true) (A.val undef)).bind fun t42 =>
    (pBool t42).bind fun t43 =>
    brn t43 (
      (C136_0 x1 x2 x3 [[sv [88]], [sv [89]], [sv [90]], [sv [97]], [sv [98]], [sv [88]], [sv [97]]]).bind fun t44 =>
      (hD t44 0).bind fun t45 =>
      (hD t44 1).bind fun t46 =>
      (hD t44 2).bind fun t47 =>
      (hD t44 3).bind fun t48 =>
      brn (okA t48) (
        brn (okA t48) (
          some ((A.top, [t45, t46, t47, t48, A.sl 2 []]))) (
          none)) (
        none)) (
      (C94_0 (vi 2) x1 x2 x3).bind fun t49 =>
      (hD t49 0).bind fun t50 =>
      (hD t49 1).bind fun t51 =>
      (hD t49 2).bind fun t52 =>
      (hD t49 3).bind fun t53 =>
      (pBool t53).bind fun t54 =>
      brn t54 (
        (pBin .sub false x0 (vi 1)).bind fun t55 =>
        (C145_0 t55 t50 t51 t52).bind fun t56 =>
        (hD t56 0).bind fun t57 =>
        (hD t56 1).bind fun t58 =>
        (hD t56 2).bind fun t59 =>
        (hD t56 3).bind fun t60 =>
        (hR 2 t56 4).bind fun t61 =>
        brn (okA t60) (
          some ((A.top, [t57, t58, t59, sv [102], A.sl 2 [[t60, A.sl 2 t61]]]))) (
          none)) (
        (pBin .sub false x0 (vi 1)).bind fun t62 =>
        (C145_0 t62 t50 t51 t52).bind fun t63 =>
        (hD t63 0).bind fun t64 =>
        (hD t63 1).bind fun t65 =>
        (hD t63 2).bind fun t66 =>
        (hD t63 3).bind fun t67 =>
        (hR 2 t63 4).bind fun t68 =>
        (pBin .sub false x0 (vi 1)).bind fun t69 =>
        (C145_0 t69 t64 t65 t66).bind fun t70 =>
        (hD t70 0).bind fun t71 =>
        (hD t70 1).bind fun t72 =>
        (hD t70 2).bind fun t73 =>
        (hD t70 3).bind fun t74 =>
        (hR 2 t70 4).bind fun t75 =>
        brn (okA t67) (
          brn (okA t74) (
            some ((A.top, [t71, t72, t73, sv [103], A.sl 2 [[t67, A.sl 2 t68], [t74, A.sl 2 t75]]]))) (
            none)) (
          none)))) :=
  (V_eq rfl Tryz.func145 rfl rfl).trans (by kernel_rfl)
theorem c178_0 (x0 x1 x2 : A) : C178_0 x0 x1 x2 =
  (pLenL x0).bind fun t0 =>
  (pBin .lss false x1 t0).bind fun t1 =>
  (pBool t1).bind fun t2 =>
  brn t2 (
    (pIndexAddr 1 x0 x1).bind fun t3 =>
    (pLoadP t3).bind fun t4 =>
    (pConv .i64 t4).bind fun t5 =>
    (pBin .add false x1 (vi 1)).bind fun t6 =>
    brn (okA t6) (
      (pBin .mul false x2 (A.val (.int .u64 6364136223846793005))).bind fun t7 =>
      (pConv .u64 t5).bind fun t8 =>
      (pBin .add false t7 t8).bind fun t9 =>
      (pBin .add false t9 (A.val (.int .u64 892892))).bind fun t10 =>
      brn (okA t10) (
        (pLenL x0).bind fun t11 =>
        (pBin .leq false t6 t11).bind fun t12 =>
        (pBool t12).bind fun t13 =>
        brn t13 (
          some ((A.top, [x0, t6, t10, t5]))) (
          (pBin .shr false t10 (A.val (.int .u64 40))).bind fun t14 =>
          (pBin .and false t14 (A.val (.int .u64 255))).bind fun t15 =>
          (pConv .i64 t15).bind fun t16 =>
          some ((A.top, [x0, t6, t10, t16])))) (
        none)) (
      none)) (
    (pBin .add false x1 (vi 1)).bind fun t17 =>
    brn (okA t17) (
      (pBin .mul false x2 (A.val (.int .u64 6364136223846793005))).bind fun t18 =>
      (pConv .u64 (vi 0)).bind fun t19 =>
      (pBin .add false t18 t19).bind fun t20 =>
      (pBin .add false t20 (A.val (.int .u64 892892))).bind fun t21 =>
      brn (okA t21) (
        (pLenL x0).bind fun t22 =>
        (pBin .leq false t17 t22).bind fun t23 =>
        (pBool t23).bind fun t24 =>
        brn t24 (
          some ((A.top, [x0, t17, t21, vi 0]))) (
          (pBin .shr false t21 (A.val (.int .u64 40))).bind fun t25 =>
          (pBin .and false t25 (A.val (.int .u64 255))).bind fun t26 =>
          (pConv .i64 t26).bind fun t27 =>
          some ((A.top, [x0, t17, t21, t27])))) (
        none)) (
      none)) :=
  (V_eq rfl Tryz.func178 rfl rfl).trans (by kernel_rfl)
theorem c179_0 (x0 x1 x2 x3 : A) : C179_0 x0 x1 x2 x3 =
  (C136_0 x1 x2 x3 [[sv [88]], [sv [97]]]).bind fun t0 =>
  (hD t0 0).bind fun t1 =>
  (hD t0 1).bind fun t2 =>
  (hD t0 2).bind fun t3 =>
  (hD t0 3).bind fun t4 =>
  brn (okA t4) (
    brn (okA t4) (
      L179c0_0 x0 (sv []) t4 t1 t2 t3 [] []) (
      none)) (
    none) :=
  (V_eq rfl Tryz.func179 rfl rfl).trans (by kernel_rfl)
theorem l179c0_0 (x0 x1 x2 x3 x4 x5 : A) (r0 r1 : List (List A)) : L179c0_0 x0 x1 x2 x3 x4 x5 r0 r1 =
  (pBin .gtr false x0 (vi 1)).bind fun t5 =>
  (pBool t5).bind fun t6 =>
  brn t6 (
    brn (okA x2) (
      (pBin .sub false x0 (vi 1)).bind fun t7 =>
      L179c0_0 t7 x1 (sv [102]) x3 x4 x5 r0 [[x2, A.sl 2 r1]]) (
      none)) (
    brn (okA x2) (
      some ((A.top, [x3, x4, x5, x2, A.sl 2 r1]))) (
      none)) :=
  (H_eq Tryz.func179 rfl).trans (by kernel_rfl)
theorem c180_0 (x0 x1 x2 : A) : C180_0 x0 x1 x2 =
  L180c0_0 (vi 0) x0 x1 x2 (sv []) (sv [103]) [] [] :=
  (V_eq rfl Tryz.func180 rfl rfl).trans (by kernel_rfl)
theorem l180c0_0 (x0 x1 x2 x3 x4 x5 : A) (r0 r1 : List (List A)) : L180c0_0 x0 x1 x2 x3 x4 x5 r0 r1 =
  (pBin .lss false x0 (vi 4)).bind fun t0 =>
  (pBool t0).bind fun t1 =>
  brn t1 (
    L180c0_1 x0 (vi 0) x1 x2 x3 x4 x5 (sv [104]) r0 r1 []) (
    (C94_0 (vi 2) x1 x2 x3).bind fun t2 =>
    (hD t2 0).bind fun t3 =>
    (hD t2 1).bind fun t4 =>
    (hD t2 2).bind fun t5 =>
    (hD t2 3).bind fun t6 =>
    (pBool t6).bind fun t7 =>
    brn t7 (
      (pB (rCnt r1) (rRem r1 0) (some (vi 3))).bind fun t8 =>
      (C94_0 (vi 2) t3 t4 t5).bind fun t9 =>
      (hD t9 0).bind fun t10 =>
      (hD t9 1).bind fun t11 =>
      (hD t9 2).bind fun t12 =>
      (hD t9 3).bind fun t13 =>
      (pWant t13 true).bind fun t14 =>
      (pWant t13 true).bind fun t15 =>
      (pG t13 true (some (nA (nSub t8 0)))).bind fun t16 =>
      (pG t13 true (pBin .eql false t16 (vi 3))).bind fun t17 =>
      (pPick t13 t17 (vb false)).bind fun t18 =>
      (pBool t18).bind fun t19 =>
      brn t19 (
        brn (pRoom 0 (nSub t8 0) [[sv [102], A.sl 2 [[sv [98], A.sl 2 []]]]] r1) (
          brn (okA x5) (
            some ((A.top, [t10, t11, t12, A.agg [x5, A.sl 2 (List.take ((nSub t8 0) + (rCnt [[sv [102], A.sl 2 [[sv [98], A.sl 2 []]]]])) (rOver r1 (0 + (nSub t8 0)) [[sv [102], A.sl 2 [[sv [98], A.sl 2 []]]]]))]]))) (
            none)) (
          none)) (
        brn (okA x5) (
          some ((A.top, [t10, t11, t12, A.agg [x5, A.sl 2 (List.take (nSub t8 0) r1)]]))) (
          none))) (
      (C94_0 (vi 2) t3 t4 t5).bind fun t20 =>
      (hD t20 0).bind fun t21 =>
      (hD t20 1).bind fun t22 =>
      (hD t20 2).bind fun t23 =>
      (hD t20 3).bind fun t24 =>
      (pWant t24 true).bind fun t25 =>
      (pWant t24 true).bind fun t26 =>
      (pG t24 true (some (rLen r1))).bind fun t27 =>
      (pG t24 true (pBin .eql false t27 (vi 3))).bind fun t28 =>
      (pPick t24 t28 (vb false)).bind fun t29 =>
      (pBool t29).bind fun t30 =>
      brn t30 (
        brn (pFit ((rLenN r1) + (rLenN [[sv [102], A.sl 2 [[sv [98], A.sl 2 []]]]])) 40) (
          brn (okA x5) (
            some ((A.top, [t21, t22, t23, A.agg [x5, A.sl 2 (rApp r1 [[sv [102], A.sl 2 [[sv [98], A.sl 2 []]]]])]]))) (
            none)) (
          none)) (
        brn (okA x5) (
          some ((A.top, [t21, t22, t23, A.agg [x5, A.sl 2 r1]]))) (
          none)))) :=
  (H_eq Tryz.func180 rfl).trans (by kernel_rfl)
theorem l180c0_1 (x0 x1 x2 x3 x4 x5 x6 x7 : A) (r0 r1 r2 : List (List A)) : L180c0_1 x0 x1 x2 x3 x4 x5 x6 x7 r0 r1 r2 =
  (pBin .lss false x1 (vi 4)).bind fun t31 =>
  (pBool t31).bind fun t32 =>
  brn t32 (
    brn (pFit ((rLenN r2) + (rLenN [[sv [102], A.sl 2 [[sv [97], A.sl 2 []]]]])) 40) (
      (pBin .add false x1 (vi 1)).bind fun t33 =>
      L180c0_1 x0 t33 x2 x3 x4 x5 x6 x7 r0 r1 (rApp r2 [[sv [102], A.sl 2 [[sv [97], A.sl 2 []]]]])) (
      none)) (
    brn (okA x7) (
      brn (pFit ((rLenN r1) + (rLenN [[x7, A.sl 2 r2]])) 40) (
        (pBin .add false x0 (vi 1)).bind fun t34 =>
        L180c0_0 t34 x2 x3 x4 x5 x6 r0 (rApp r1 [[x7, A.sl 2 r2]])) (
        none)) (
      none)) :=
  (H_eq Tryz.func180 rfl).trans (by kernel_rfl)
end Go.Proofs.YtjclanocnkankaaGreat
