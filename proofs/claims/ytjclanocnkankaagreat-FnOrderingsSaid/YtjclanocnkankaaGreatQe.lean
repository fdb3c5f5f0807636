/- WRITTEN BY A PROGRAM (gen.py): what functions come to, as equations. -/
import Derived.Test.YtjclanocnkankaaGreatK
import Derived.Test.YtjclanocnkankaaGreatQa
import Derived.Test.YtjclanocnkankaaGreatQd
import Derived.KernelRfl
set_option linter.unusedVariables false
namespace Go.Proofs.YtjclanocnkankaaGreat
open Go Go.RowKit Go.Proofs.YtjclanocnkankaaGreat.Abs
noncomputable def L7_0 (x0 x1 x2 x3 x4 x5 x6 : A) : Option Out := MM K (.head 7 [1, 1, 1, 1, 1, 1, 1, 1, 1, 1, 1, 1, 1, 1, 1, 1, 1, 1, 0, 1, 0] [V.top, V.top, V.top, V.ptr 0 0, V.ptr 1 0, V.top, V.top, V.top, V.top, V.top, V.d x0, V.top, V.top, V.top, V.top, V.top, V.top, V.top, V.top, V.top, V.top, V.top, V.top, V.top, V.top, V.top, V.top, V.top, V.top, V.d x1, V.top, V.top, V.top, V.top, V.top, V.top, V.top, V.top, V.top, V.top, V.top, V.top, V.top, V.top, V.top, V.top, V.top, V.top, V.top, V.top, V.top, V.top, V.top, V.top, V.top, V.top, V.top, V.top, V.top, V.top, V.top, V.top, V.top, V.top, V.top, V.top, V.top, V.top, V.top, V.top, V.top, V.top, V.top, V.top, V.top, V.top, V.top, V.top, V.top, V.top, V.top, V.top, V.top, V.top, V.top, V.top, V.top, V.top, V.top, V.top, V.top, V.top, V.top, V.top, V.top, V.top, V.top, V.top, V.top, V.top, V.top, V.top, V.top, V.top, V.top, V.top, V.top, V.top, V.top, V.top, V.top, V.top, V.top, V.top, V.top, V.top, V.top, V.top, V.top, V.top, V.top, V.top, V.top, V.top, V.top, V.top, V.top, V.top, V.top, V.top, V.top, V.top, V.top, V.top, V.top, V.top, V.top, V.top, V.top, V.top, V.top, V.top, V.top, V.top, V.top, V.top, V.top, V.top, V.top, V.top, V.top, V.top, V.top, V.top, V.top, V.top, V.top, V.top, V.top, V.top, V.top, V.top, V.top, V.top, V.top, V.top, V.top, V.top, V.top, V.top, V.top, V.top, V.top, V.top, V.top, V.top, V.top, V.top, V.top, V.top, V.top, V.top, V.top, V.top, V.top, V.top, V.top, V.top, V.top, V.top, V.top, V.top, V.top, V.top, V.top, V.top, V.top, V.top, V.top, V.top, V.top, V.top, V.top, V.top, V.top, V.top, V.top, V.top, V.top, V.top, V.top, V.top, V.top, V.top, V.top, V.top, V.top, V.top, V.top, V.top, V.top, V.top, V.top, V.top, V.top, V.top, V.top, V.top, V.top, V.top, V.top, V.top, V.top, V.top, V.top, V.top, V.top, V.top, V.top, V.top, V.top] [.box [V.d x2, V.d x3, V.d x4], .box [V.d x5, V.d x6]] none)
theorem g7 (a0 : A) : G 7 [a0] =
  ((G 37 [a0]).bind (fin false)).bind fun t0 =>
  (pBool t0).bind fun t1 =>
  brn t1 (
    some ((vb true, []))) (
    ((G 38 [a0]).bind (fin false)).bind fun t2 =>
    (pTup t2 0).bind fun t3 =>
    (pTup t2 1).bind fun t4 =>
    (pTup t2 2).bind fun t5 =>
    (pCells 3 t3).bind fun t6 =>
    (pCells 2 t4).bind fun t7 =>
    (pCells 2 t5).bind fun t8 =>
    ((G 39 [a0, vi 9]).bind (fin false)).bind fun t9 =>
    ((G 38 [t9]).bind (fin false)).bind fun t10 =>
    (pTup t10 0).bind fun t11 =>
    (pTup t10 1).bind fun t12 =>
    (pTup t10 2).bind fun t13 =>
    (pCells 3 t11).bind fun t14 =>
    (pCells 2 t12).bind fun t15 =>
    (pCells 2 t13).bind fun t16 =>
    ((G 40 [A.agg [cGet t6 0, cGet t6 1, cGet t6 2], A.agg [cGet t7 0, cGet t7 1], A.agg [cGet t8 0, cGet t8 1]]).bind (fin false)).bind fun t17 =>
    (pTup t17 0).bind fun t18 =>
    (pTup t17 1).bind fun t19 =>
    ((G 40 [A.agg [cGet t6 0, cGet t6 1, cGet t6 2], A.agg [cGet t8 0, cGet t8 1], A.agg [cGet t7 0, cGet t7 1]]).bind (fin false)).bind fun t20 =>
    (pTup t20 0).bind fun t21 =>
    (pTup t20 1).bind fun t22 =>
    ((G 41 [A.agg [cGet t6 0, cGet t6 1, cGet t6 2], A.agg [cGet t7 0, cGet t7 1], A.agg [cGet t8 0, cGet t8 1]]).bind (fin false)).bind fun t23 =>
    (pTup t23 0).bind fun t24 =>
    (pTup t23 1).bind fun t25 =>
    (pBin .neq false t18 t24).bind fun t26 =>
    (pG t26 false (some t19)).bind fun t27 =>
    (pG t26 false (some t25)).bind fun t28 =>
    (pG t26 false (pBin .neq true t27 t28)).bind fun t29 =>
    (pPick t26 (vb true) t29).bind fun t30 =>
    (pG t30 false (some t22)).bind fun t31 =>
    (pG t30 false (some t19)).bind fun t32 =>
    (pG t30 false (pBin .neq true t31 t32)).bind fun t33 =>
    (pPick t30 (vb true) t33).bind fun t34 =>
    (pG t34 false (some t21)).bind fun t35 =>
    (pG t34 false (some t18)).bind fun t36 =>
    (pG t34 false ((G 42 [t36]).bind (fin false))).bind fun t37 =>
    (pG t34 false (pBin .neq false t35 t37)).bind fun t38 =>
    (pPick t34 (vb true) t38).bind fun t39 =>
    (pBool t39).bind fun t40 =>
    brn t40 (
      some ((vb false, []))) (
      ((G 43 [A.agg [cGet t6 0, cGet t6 1, cGet t6 2], A.agg [cGet t7 0, cGet t7 1], A.agg [cGet t8 0, cGet t8 1]]).bind (fin false)).bind fun t41 =>
      (pTup t41 0).bind fun t42 =>
      (pTup t41 1).bind fun t43 =>
      ((G 43 [A.agg [cGet t6 0, cGet t6 1, cGet t6 2], A.agg [cGet t8 0, cGet t8 1], A.agg [cGet t7 0, cGet t7 1]]).bind (fin false)).bind fun t44 =>
      (pTup t44 0).bind fun t45 =>
      (pTup t44 1).bind fun t46 =>
      ((G 44 [A.agg [cGet t6 0, cGet t6 1, cGet t6 2], A.agg [cGet t7 0, cGet t7 1], A.agg [cGet t8 0, cGet t8 1]]).bind (fin false)).bind fun t47 =>
      (pTup t47 0).bind fun t48 =>
      (pTup t47 1).bind fun t49 =>
      (pBin .neq false t42 t48).bind fun t50 =>
      (pG t50 false (some t43)).bind fun t51 =>
      (pG t50 false (some t49)).bind fun t52 =>
      (pG t50 false (pBin .neq true t51 t52)).bind fun t53 =>
      (pPick t50 (vb true) t53).bind fun t54 =>
      (pG t54 false (some t46)).bind fun t55 =>
      (pG t54 false (some t43)).bind fun t56 =>
      (pG t54 false (pBin .neq true t55 t56)).bind fun t57 =>
      (pPick t54 (vb true) t57).bind fun t58 =>
      (pG t58 false (some t45)).bind fun t59 =>
      (pG t58 false (some t42)).bind fun t60 =>
      (pG t58 false ((G 42 [t60]).bind (fin false))).bind fun t61 =>
      (pG t58 false (pBin .neq false t59 t61)).bind fun t62 =>
      (pPick t58 (vb true) t62).bind fun t63 =>
      (pBool t63).bind fun t64 =>
      brn t64 (
        some ((vb false, []))) (
        ((G 40 [A.agg [cGet t6 0, cGet t6 1, cGet t6 2], A.agg [cGet t8 0, cGet t8 1], A.agg [cGet t15 0, cGet t15 1]]).bind (fin false)).bind fun t65 =>
        (pTup t65 0).bind fun t66 =>
        (pTup t65 1).bind fun t67 =>
        ((G 40 [A.agg [cGet t6 0, cGet t6 1, cGet t6 2], A.agg [cGet t7 0, cGet t7 1], A.agg [cGet t15 0, cGet t15 1]]).bind (fin false)).bind fun t68 =>
        (pTup t68 0).bind fun t69 =>
        (pTup t68 1).bind fun t70 =>
        (pG t19 true (some t67)).bind fun t71 =>
        (pPick t19 t71 (vb false)).bind fun t72 =>
        (pG t72 true (some t70)).bind fun t73 =>
        (pPick t72 t73 (vb false)).bind fun t74 =>
        (pG t74 true (some t18)).bind fun t75 =>
        (pG t74 true (pBin .eql false t75 (vi 2))).bind fun t76 =>
        (pPick t74 t76 (vb false)).bind fun t77 =>
        (pG t77 true (some t66)).bind fun t78 =>
        (pG t77 true (pBin .eql false t78 (vi 2))).bind fun t79 =>
        (pPick t77 t79 (vb false)).bind fun t80 =>
        (pG t80 true (some t69)).bind fun t81 =>
        (pG t80 true (pBin .neq false t81 (vi 2))).bind fun t82 =>
        (pPick t80 t82 (vb false)).bind fun t83 =>
        (pBool t83).bind fun t84 =>
        brn t84 (
          some ((vb false, []))) (
          ((G 43 [A.agg [cGet t6 0, cGet t6 1, cGet t6 2], A.agg [cGet t8 0, cGet t8 1], A.agg [cGet t15 0, cGet t15 1]]).bind (fin false)).bind fun t85 =>
          (pTup t85 0).bind fun t86 =>
          (pTup t85 1).bind fun t87 =>
          ((G 43 [A.agg [cGet t6 0, cGet t6 1, cGet t6 2], A.agg [cGet t7 0, cGet t7 1], A.agg [cGet t15 0, cGet t15 1]]).bind (fin false)).bind fun t88 =>
          (pTup t88 0).bind fun t89 =>
          (pTup t88 1).bind fun t90 =>
          (pG t43 true (some t87)).bind fun t91 =>
          (pPick t43 t91 (vb false)).bind fun t92 =>
          (pG t92 true (some t90)).bind fun t93 =>
          (pPick t92 t93 (vb false)).bind fun t94 =>
          (pG t94 true (some t42)).bind fun t95 =>
          (pG t94 true (pBin .eql false t95 (vi 2))).bind fun t96 =>
          (pPick t94 t96 (vb false)).bind fun t97 =>
          (pG t97 true (some t86)).bind fun t98 =>
          (pG t97 true (pBin .eql false t98 (vi 2))).bind fun t99 =>
          (pPick t97 t99 (vb false)).bind fun t100 =>
          (pG t100 true (some t89)).bind fun t101 =>
          (pG t100 true (pBin .neq false t101 (vi 2))).bind fun t102 =>
          (pPick t100 t102 (vb false)).bind fun t103 =>
          (pBool t103).bind fun t104 =>
          brn t104 (
            some ((vb false, []))) (
            L7_0 t19 (vi 0) (cGet t6 0) (cGet t6 1) (cGet t6 2) (cGet t7 0) (cGet t7 1)))))) :=
  (G_eq rfl Tryz.func7 rfl rfl).trans (by kernel_rfl)
theorem l7_0 (x0 x1 x2 x3 x4 x5 x6 : A) : L7_0 x0 x1 x2 x3 x4 x5 x6 =
  (pLenL x6).bind fun t105 =>
  (pBin .lss false x1 t105).bind fun t106 =>
  (pG t106 true (some x0)).bind fun t107 =>
  (pPick t106 t107 (vb false)).bind fun t108 =>
  (pBool t108).bind fun t109 =>
  brn t109 (
    (pIndexAddr 2 x6 x1).bind fun t110 =>
    (pLoadN 2 t110).bind fun t111 =>
    ((G 40 [A.agg [x2, x3, x4], A.agg [x5, x6], t111]).bind (fin false)).bind fun t112 =>
    (pTup t112 0).bind fun t113 =>
    (pTup t112 1).bind fun t114 =>
    (pIndexAddr 2 x6 x1).bind fun t115 =>
    (pLoadN 2 t115).bind fun t116 =>
    ((G 43 [A.agg [x2, x3, x4], A.agg [x5, x6], t116]).bind (fin false)).bind fun t117 =>
    (pTup t117 0).bind fun t118 =>
    (pTup t117 1).bind fun t119 =>
    (pUn .not t114).bind fun t120 =>
    (pG t120 false (some t119)).bind fun t121 =>
    (pG t120 false (pUn .not t121)).bind fun t122 =>
    (pPick t120 (vb true) t122).bind fun t123 =>
    (pG t123 false (some t113)).bind fun t124 =>
    (pG t123 false (pBin .neq false t124 (vi 2))).bind fun t125 =>
    (pPick t123 (vb true) t125).bind fun t126 =>
    (pG t126 false (some t118)).bind fun t127 =>
    (pG t126 false (pBin .neq false t127 (vi 2))).bind fun t128 =>
    (pPick t126 (vb true) t128).bind fun t129 =>
    (pBool t129).bind fun t130 =>
    brn t130 (
      some ((vb false, []))) (
      (pBin .add false x1 (vi 1)).bind fun t131 =>
      L7_0 x0 t131 x2 x3 x4 x5 x6)) (
    some ((vb true, []))) :=
  (H_eq Tryz.func7 rfl).trans (by kernel_rfl)
theorem g38 (a0 : A) : G 38 [a0] =
  brn (okA a0) (
    brn (okA a0) (
      (C84_0 a0 (vi 0) (A.val (.int .u64 0))).bind fun t0 =>
      (hD t0 0).bind fun t1 =>
      (hD t0 1).bind fun t2 =>
      (hD t0 2).bind fun t3 =>
      (hD t0 3).bind fun t4 =>
      (pCells 3 t4).bind fun t5 =>
      (C85_0 t1 t2 t3).bind fun t6 =>
      (hD t6 0).bind fun t7 =>
      (hD t6 1).bind fun t8 =>
      (hD t6 2).bind fun t9 =>
      (hD t6 3).bind fun t10 =>
      (pTup t10 0).bind fun t11 =>
      (pTup t10 1).bind fun t12 =>
      (pCells 2 t11).bind fun t13 =>
      (pCells 2 t12).bind fun t14 =>
      brn (okA (cGet t5 0)) (
        brn (okA (cGet t5 1)) (
          brn (okA (cGet t5 2)) (
            brn (okA (cGet t13 0)) (
              brn (okA (cGet t13 1)) (
                brn (okA (cGet t14 0)) (
                  brn (okA (cGet t14 1)) (
                    some ((A.tup [A.agg [cGet t5 0, cGet t5 1, cGet t5 2], A.agg [cGet t13 0, cGet t13 1], A.agg [cGet t14 0, cGet t14 1]], []))) (
                    none)) (
                  none)) (
                none)) (
              none)) (
            none)) (
          none)) (
        none)) (
      none)) (
    none) :=
  (G_eq rfl Tryz.func38 rfl rfl).trans (by kernel_rfl)
theorem g39 (a0 a1 : A) : G 39 [a0, a1] =
  (pLenL a0).bind fun t0 =>
  (pBin .gtr false a1 t0).bind fun t1 =>
  (pBool t1).bind fun t2 =>
  brn t2 (
    (pLenL a0).bind fun t3 =>
    (pSlice 1 a0 (some t3) none).bind fun t4 =>
    (pRows 1 t4).bind fun t5 =>
    brn (pFit (rLenN t5) 1) (
      (pConv .u8 t3).bind fun t6 =>
      brn (okA t6) (
        brn (pFit ((rLenN t5) + (rLenN [[t6]])) 1) (
          some ((A.sl 1 (rApp t5 [[t6]]), []))) (
          none)) (
        none)) (
      none)) (
    (pSlice 1 a0 (some a1) none).bind fun t7 =>
    (pRows 1 t7).bind fun t8 =>
    brn (pFit (rLenN t8) 1) (
      (pConv .u8 a1).bind fun t9 =>
      brn (okA t9) (
        brn (pFit ((rLenN t8) + (rLenN [[t9]])) 1) (
          some ((A.sl 1 (rApp t8 [[t9]]), []))) (
          none)) (
        none)) (
      none)) :=
  (G_eq rfl Tryz.func39 rfl rfl).trans (by kernel_rfl)
theorem g42 (a0 : A) : G 42 [a0] =
  (pBin .eql false a0 (vi 2)).bind fun t0 =>
  (pBool t0).bind fun t1 =>
  brn t1 (
    some ((vi 3, []))) (
    (pBin .eql false a0 (vi 3)).bind fun t2 =>
    (pBool t2).bind fun t3 =>
    brn t3 (
      some ((vi 2, []))) (
      some ((a0, [])))) :=
  (G_eq rfl Tryz.func42 rfl rfl).trans (by kernel_rfl)
end Go.Proofs.YtjclanocnkankaaGreat
