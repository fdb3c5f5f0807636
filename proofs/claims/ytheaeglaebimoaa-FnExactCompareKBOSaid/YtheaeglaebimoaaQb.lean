/- WRITTEN BY A PROGRAM (gen.py): what functions come to, as equations. -/
import Derived.Test.YtheaeglaebimoaaK
import Derived.Test.YtheaeglaebimoaaQa
import Derived.KernelRfl
set_option linter.unusedVariables false
namespace Go.Proofs.Ytheaeglaebimoaa
open Go Go.RowKit Go.Proofs.Ytheaeglaebimoaa.Abs
noncomputable def L126_0 (x0 x1 x2 x3 x4 x5 : A) : Option Out := MM K (.head 126 [1, 1, 0, 1, 0] [V.top, V.top, V.ptr 0 0, V.ptr 1 0, V.top, V.d x0, V.d x1, V.top, V.top, V.top, V.top, V.top, V.top, V.top, V.top, V.top, V.top, V.top, V.top, V.top, V.top, V.top, V.top, V.top, V.top, V.top, V.top, V.top] [.box [V.d x2, V.d x3], .box [V.d x4, V.d x5]] none)
noncomputable def L128_0 (x0 x1 x2 x3 x4 x5 x6 x7 x8 x9 : A) : Option Out := MM K (.head 128 [1, 0, 1, 0] [V.top, V.top, V.top, V.ptr 0 0, V.ptr 1 0, V.ptr 2 0, V.top, V.top, V.top, V.top, V.top, V.top, V.top, V.top, V.top, V.d x0, V.d x1, V.d x2, V.top, V.top, V.top, V.top, V.top, V.top, V.top, V.top, V.top, V.top, V.top, V.top, V.top, V.top, V.top, V.top, V.top, V.top, V.top, V.top, V.top, V.top, V.top, V.top, V.top, V.top, V.top, V.top, V.top, V.top, V.top, V.top, V.top, V.top, V.top, V.top, V.top, V.top, V.top, V.top, V.top, V.top, V.top, V.top, V.top, V.top, V.top, V.top, V.top] [.box [V.d x3, V.d x4, V.d x5], .box [V.d x6, V.d x7], .box [V.d x8, V.d x9]] none)
noncomputable def C136_0 (r0 : List (List A)) : Option Out := MM K (.callv 136 [V.row 0] [.row 1 r0])
noncomputable def L158_0 (x0 x1 x2 x3 x4 : A) : Option Out := MM K (.head 158 [1, 1, 1, 0, 1, 0] [V.top, V.d x0, V.ptr 0 0, V.top, V.top, V.d x1, V.d x2, V.top, V.top, V.top, V.top, V.top, V.top, V.top, V.top, V.top, V.top, V.top, V.top, V.top, V.top, V.top, V.top, V.top, V.top, V.top, V.top, V.top] [.box [V.d x3, V.d x4]] none)
noncomputable def L160_0 (x0 x1 x2 x3 x4 : A) : Option Out := MM K (.head 160 [1, 1, 1, 0, 1, 0] [V.top, V.d x0, V.top, V.top, V.top, V.d x1, V.top, V.top, V.top, V.top, V.top, V.top, V.top, V.d x2, V.d x3, V.d x4, V.top, V.top, V.top, V.top, V.top, V.top, V.top, V.top, V.top, V.top] [] none)
noncomputable def L178_0 (x0 x1 x2 x3 : A) : Option Out := MM K (.head 178 [1, 1, 0, 1, 0] [V.d x0, V.top, V.top, V.ptr 0 0, V.top, V.d x1, V.top, V.top, V.top, V.top, V.top, V.top, V.top, V.top, V.top, V.top, V.top, V.top, V.top, V.top, V.top, V.top, V.top, V.top, V.top, V.top, V.top, V.top] [.box [V.d x2, V.d x3]] none)
noncomputable def C179_0 (x0 x1 : A) (r0 : List (List A)) : Option Out := MM K (.callv 179 [V.row 0, V.agg [V.d x0, V.d x1]] [.row 1 r0])
noncomputable def L179c0_0 (x0 x1 x2 : A) (r0 : List (List A)) : Option Out := MM K (.head 179 [1, 1, 0, 1, 0] [V.row 0, V.top, V.top, V.top, V.top, V.top, V.top, V.top, V.top, V.top, V.top, V.top, V.top, V.top, V.top, V.top, V.top, V.top, V.top, V.top, V.top, V.top, V.top, V.top, V.top, V.top, V.top, V.d x0, V.d x1, V.d x2, V.top, V.top, V.top, V.top, V.top, V.top, V.top, V.top] [.row 1 r0] (some [0]))
noncomputable def L179c0_1 (x0 x1 x2 : A) (r0 : List (List A)) : Option Out := MM K (.head 179 [1, 1, 0, 1, 0] [V.row 0, V.top, V.top, V.top, V.top, V.top, V.top, V.top, V.top, V.top, V.top, V.top, V.top, V.top, V.top, V.top, V.top, V.top, V.top, V.top, V.top, V.top, V.top, V.top, V.top, V.top, V.top, V.d x0, V.d x1, V.d x2, V.top, V.top, V.top, V.top, V.top, V.top, V.top, V.top] [.row 1 r0, .gone] (some [1]))
noncomputable def L180_0 (x0 x1 x2 : A) : Option Out := MM K (.head 180 [1, 1, 0, 0] [V.d x0, V.d x1, V.top, V.top, V.top, V.d x2, V.top, V.top, V.top, V.top, V.top, V.top, V.top, V.top, V.top, V.top, V.top, V.top, V.top, V.top, V.top, V.top, V.top, V.top, V.top, V.top, V.top, V.top, V.top, V.top, V.top, V.top, V.top, V.top, V.top, V.top, V.top, V.top, V.top, V.top, V.top, V.top, V.top, V.top, V.top] [] none)
theorem g8 (a0 a1 a2 : A) : G 8 [a0, a1, a2] =
  (pCells 3 a0).bind fun t0 =>
  (pCells 2 a1).bind fun t1 =>
  (pCells 2 a2).bind fun t2 =>
  ((G 19 [A.agg [cGet t0 0, cGet t0 1, cGet t0 2], vi 1048576]).bind (fin false)).bind fun t3 =>
  (pBin .lss false t3 (vi 0)).bind fun t4 =>
  (pBool t4).bind fun t5 =>
  brn t5 (
    some ((vb true, []))) (
    ((G 20 [A.agg [cGet t1 0, cGet t1 1], t3]).bind (fin false)).bind fun t6 =>
    (pBin .lss false t6 (vi 0)).bind fun t7 =>
    (pBool t7).bind fun t8 =>
    brn t8 (
      some ((vb true, []))) (
      ((G 20 [A.agg [cGet t2 0, cGet t2 1], t6]).bind (fin false)).bind fun t9 =>
      (pBin .lss false t9 (vi 0)).bind fun t10 =>
      (pBool t10).bind fun t11 =>
      brn t11 (
        some ((vb true, []))) (
        ((G 22 [A.agg [cGet t0 0, cGet t0 1, cGet t0 2]]).bind (fin false)).bind fun t12 =>
        ((G 23 [A.agg [cGet t1 0, cGet t1 1]]).bind (fin false)).bind fun t13 =>
        ((G 23 [A.agg [cGet t2 0, cGet t2 1]]).bind (fin false)).bind fun t14 =>
        ((G 34 [t12, t13, t14]).bind (fin false)).bind fun t15 =>
        (pTup t15 0).bind fun t16 =>
        (pTup t15 1).bind fun t17 =>
        ((G 22 [A.agg [cGet t0 0, cGet t0 1, cGet t0 2]]).bind (fin false)).bind fun t18 =>
        (pCells 3 t18).bind fun t19 =>
        ((G 23 [A.agg [cGet t1 0, cGet t1 1]]).bind (fin false)).bind fun t20 =>
        (pCells 2 t20).bind fun t21 =>
        ((G 23 [A.agg [cGet t2 0, cGet t2 1]]).bind (fin false)).bind fun t22 =>
        (pCells 2 t22).bind fun t23 =>
        ((G 35 [A.agg [cGet t19 0, cGet t19 1, cGet t19 2], A.agg [cGet t21 0, cGet t21 1], A.agg [cGet t23 0, cGet t23 1]]).bind (fin false)).bind fun t24 =>
        (pTup t24 0).bind fun t25 =>
        (pTup t24 1).bind fun t26 =>
        (pBin .neq false t25 t16).bind fun t27 =>
        (pG t27 false (some t26)).bind fun t28 =>
        (pG t27 false (some t17)).bind fun t29 =>
        (pG t27 false (pBin .neq true t28 t29)).bind fun t30 =>
        (pPick t27 (vb true) t30).bind fun t31 =>
        (pBool t31).bind fun t32 =>
        brn t32 (
          some ((vb false, []))) (
          ((G 22 [A.agg [cGet t0 0, cGet t0 1, cGet t0 2]]).bind (fin false)).bind fun t33 =>
          ((G 25 [A.agg [cGet t19 0, cGet t19 1, cGet t19 2], t33]).bind (fin false)).bind fun t34 =>
          (pUn .not t34).bind fun t35 =>
          (pBool t35).bind fun t36 =>
          brn t36 (
            some ((vb false, []))) (
            ((G 23 [A.agg [cGet t1 0, cGet t1 1]]).bind (fin false)).bind fun t37 =>
            ((G 26 [A.agg [cGet t21 0, cGet t21 1], t37]).bind (fin false)).bind fun t38 =>
            (pUn .not t38).bind fun t39 =>
            (pBool t39).bind fun t40 =>
            brn t40 (
              some ((vb false, []))) (
              ((G 23 [A.agg [cGet t2 0, cGet t2 1]]).bind (fin false)).bind fun t41 =>
              ((G 26 [A.agg [cGet t23 0, cGet t23 1], t41]).bind (fin false)).bind fun t42 =>
              (pUn .not t42).bind fun t43 =>
              (pBool t43).bind fun t44 =>
              brn t44 (
                some ((vb false, []))) (
                some ((vb true, []))))))))) :=
  (G_eq rfl Try.func8 rfl rfl).trans (by kernel_rfl)
theorem g34 (a0 a1 a2 : A) : G 34 [a0, a1, a2] =
  (pCells 3 a0).bind fun t0 =>
  (pCells 2 a1).bind fun t1 =>
  (pCells 2 a2).bind fun t2 =>
  ((G 48 [A.agg [cGet t0 0, cGet t0 1, cGet t0 2]]).bind (fin false)).bind fun t3 =>
  (pUn .not t3).bind fun t4 =>
  (pWant t4 false).bind fun t5 =>
  (pWant t4 false).bind fun t6 =>
  (pG t4 false ((G 49 [A.agg [cGet t0 0, cGet t0 1, cGet t0 2], A.agg [cGet t1 0, cGet t1 1]]).bind (fin false))).bind fun t7 =>
  (pG t4 false (pUn .not t7)).bind fun t8 =>
  (pPick t4 (vb true) t8).bind fun t9 =>
  (pWant t9 false).bind fun t10 =>
  (pWant t9 false).bind fun t11 =>
  (pG t9 false ((G 49 [A.agg [cGet t0 0, cGet t0 1, cGet t0 2], A.agg [cGet t2 0, cGet t2 1]]).bind (fin false))).bind fun t12 =>
  (pG t9 false (pUn .not t12)).bind fun t13 =>
  (pPick t9 (vb true) t13).bind fun t14 =>
  (pBool t14).bind fun t15 =>
  brn t15 (
    some ((A.tup [vi 0, vb false], []))) (
    ((G 58 [A.agg [cGet t1 0, cGet t1 1], A.agg [cGet t2 0, cGet t2 1]]).bind (fin false)).bind fun t16 =>
    ((G 82 [A.agg [cGet t0 0, cGet t0 1, cGet t0 2], A.agg [cGet t1 0, cGet t1 1], A.agg [cGet t2 0, cGet t2 1]]).bind (fin false)).bind fun t17 =>
    ((G 82 [A.agg [cGet t0 0, cGet t0 1, cGet t0 2], A.agg [cGet t2 0, cGet t2 1], A.agg [cGet t1 0, cGet t1 1]]).bind (fin false)).bind fun t18 =>
    ((G 57 [t16, t17, t18]).bind (fin false)).bind fun t19 =>
    some ((A.tup [t19, vb true], []))) :=
  (G_eq rfl Try.func34 rfl rfl).trans (by kernel_rfl)
theorem g35 (a0 a1 a2 : A) : G 35 [a0, a1, a2] =
  (pCells 3 a0).bind fun t0 =>
  (pCells 2 a1).bind fun t1 =>
  (pCells 2 a2).bind fun t2 =>
  brn (okA (cGet t1 0)) (
    brn (okA (cGet t1 1)) (
      brn (okA (cGet t2 0)) (
        brn (okA (cGet t2 1)) (
          ((G 53 [A.agg [cGet t0 0, cGet t0 1, cGet t0 2], A.sl 2 [[cGet t1 0, cGet t1 1], [cGet t2 0, cGet t2 1]]]).bind (fin true)).bind fun t3 =>
          (pUn .not t3).bind fun t4 =>
          (pBool t4).bind fun t5 =>
          brn t5 (
            some ((A.tup [vi 0, vb false], []))) (
            ((G 83 [A.agg [cGet t0 0, cGet t0 1, cGet t0 2], A.agg [cGet t1 0, cGet t1 1], A.agg [cGet t2 0, cGet t2 1]]).bind (fin false)).bind fun t6 =>
            some ((A.tup [t6, vb true], [])))) (
          none)) (
        none)) (
      none)) (
    none) :=
  (G_eq rfl Try.func35 rfl rfl).trans (by kernel_rfl)
theorem g82 (a0 a1 a2 : A) : G 82 [a0, a1, a2] =
  (pCells 3 a0).bind fun t0 =>
  (pCells 2 a1).bind fun t1 =>
  (pCells 2 a2).bind fun t2 =>
  ((G 126 [A.agg [cGet t1 0, cGet t1 1], A.agg [cGet t2 0, cGet t2 1]]).bind (fin false)).bind fun t3 =>
  (pUn .not t3).bind fun t4 =>
  (pBool t4).bind fun t5 =>
  brn t5 (
    some ((vb false, []))) (
    ((G 50 [A.agg [cGet t0 0, cGet t0 1, cGet t0 2], A.agg [cGet t1 0, cGet t1 1]]).bind (fin false)).bind fun t6 =>
    ((G 50 [A.agg [cGet t0 0, cGet t0 1, cGet t0 2], A.agg [cGet t2 0, cGet t2 1]]).bind (fin false)).bind fun t7 =>
    (pBin .neq false t6 t7).bind fun t8 =>
    (pBool t8).bind fun t9 =>
    brn t9 (
      (pBin .gtr false t6 t7).bind fun t10 =>
      some ((t10, []))) (
      ((G 99 [cGet t1 0]).bind (fin false)).bind fun t11 =>
      (pWant t11 false).bind fun t12 =>
      (pG t11 false (some (cGet t2 0))).bind fun t13 =>
      (pG t11 false ((G 99 [t13]).bind (fin false))).bind fun t14 =>
      (pPick t11 (vb true) t14).bind fun t15 =>
      (pBool t15).bind fun t16 =>
      brn t16 (
        some ((vb false, []))) (
        ((G 108 [A.agg [cGet t0 0, cGet t0 1, cGet t0 2], A.agg [cGet t1 0, cGet t1 1], A.agg [cGet t2 0, cGet t2 1]]).bind (fin false)).bind fun t17 =>
        (pBin .neq false t17 (vi 0)).bind fun t18 =>
        (pBool t18).bind fun t19 =>
        brn t19 (
          (pBin .gtr false t17 (vi 0)).bind fun t20 =>
          some ((t20, []))) (
          ((G 109 [A.agg [cGet t1 0, cGet t1 1], A.agg [cGet t2 0, cGet t2 1]]).bind (fin false)).bind fun t21 =>
          (pBin .geq false t21 (vi 0)).bind fun t22 =>
          (pWant t22 true).bind fun t23 =>
          (pWant t22 true).bind fun t24 =>
          (pG t22 true (some (cGet t1 1))).bind fun t25 =>
          (pG t22 true (some t21)).bind fun t26 =>
          (pG t22 true (pIndexAddr 2 t25 t26)).bind fun t27 =>
          (pG t22 true (pLoadN 2 t27)).bind fun t28 =>
          (pWant t22 true).bind fun t29 =>
          (pG t22 true (some (cGet t2 1))).bind fun t30 =>
          (pG t22 true (some t21)).bind fun t31 =>
          (pG t22 true (pIndexAddr 2 t30 t31)).bind fun t32 =>
          (pG t22 true (pLoadN 2 t32)).bind fun t33 =>
          (pG t22 true ((G 82 [A.agg [cGet t0 0, cGet t0 1, cGet t0 2], t28, t33]).bind (fin false))).bind fun t34 =>
          (pPick t22 t34 (vb false)).bind fun t35 =>
          some ((t35, [])))))) :=
  (G_eq rfl Try.func82 rfl rfl).trans (by kernel_rfl)
theorem g83 (a0 a1 a2 : A) : G 83 [a0, a1, a2] =
  (pCells 3 a0).bind fun t0 =>
  (pCells 2 a1).bind fun t1 =>
  (pCells 2 a2).bind fun t2 =>
  ((G 61 [A.agg [cGet t1 0, cGet t1 1], A.agg [cGet t2 0, cGet t2 1]]).bind (fin false)).bind fun t3 =>
  ((G 60 [t3, A.fn 127 [A.elt [cGet t0 0, cGet t0 1, cGet t0 2] 0, A.elt [cGet t1 0, cGet t1 1] 0, A.elt [cGet t2 0, cGet t2 1] 0], A.fn 129 [A.elt [cGet t0 0, cGet t0 1, cGet t0 2] 0, A.elt [cGet t2 0, cGet t2 1] 0, A.elt [cGet t1 0, cGet t1 1] 0]]).bind (fin true)).bind fun t4 =>
  some ((t4, [])) :=
  (G_eq rfl Try.func83 rfl rfl).trans (by kernel_rfl)
theorem g126 (a0 a1 : A) : G 126 [a0, a1] =
  (pCells 2 a0).bind fun t0 =>
  (pCells 2 a1).bind fun t1 =>
  ((G 157 [A.agg [cGet t1 0, cGet t1 1]]).bind (fin false)).bind fun t2 =>
  L126_0 t2 (vi 0) (cGet t0 0) (cGet t0 1) (cGet t1 0) (cGet t1 1) :=
  (G_eq rfl Try.func126 rfl rfl).trans (by kernel_rfl)
theorem l126_0 (x0 x1 x2 x3 x4 x5 : A) : L126_0 x0 x1 x2 x3 x4 x5 =
  (pLenL x0).bind fun t3 =>
  (pBin .lss false x1 t3).bind fun t4 =>
  (pBool t4).bind fun t5 =>
  brn t5 (
    (pIndexAddr 1 x0 x1).bind fun t6 =>
    (pLoadP t6).bind fun t7 =>
    ((G 158 [A.agg [x2, x3], t7]).bind (fin false)).bind fun t8 =>
    (pIndexAddr 1 x0 x1).bind fun t9 =>
    (pLoadP t9).bind fun t10 =>
    ((G 158 [A.agg [x4, x5], t10]).bind (fin false)).bind fun t11 =>
    (pBin .lss false t8 t11).bind fun t12 =>
    (pBool t12).bind fun t13 =>
    brn t13 (
      some ((vb false, []))) (
      (pBin .add false x1 (vi 1)).bind fun t14 =>
      L126_0 x0 t14 x2 x3 x4 x5)) (
    some ((vb true, []))) :=
  (H_eq Try.func126 rfl).trans (by kernel_rfl)
theorem g127 (a0 a1 a2 : A) : G 127 [a0, a1, a2] =
  (pLoadN 3 a0).bind fun t0 =>
  (pLoadN 2 a1).bind fun t1 =>
  (pLoadN 2 a2).bind fun t2 =>
  ((G 128 [t0, t1, t2]).bind (fin false)).bind fun t3 =>
  some ((t3, [])) :=
  (G_eq rfl Try.func127 rfl rfl).trans (by kernel_rfl)
theorem g128 (a0 a1 a2 : A) : G 128 [a0, a1, a2] =
  (pCells 3 a0).bind fun t0 =>
  (pCells 2 a1).bind fun t1 =>
  (pCells 2 a2).bind fun t2 =>
  ((G 159 [A.agg [cGet t2 0, cGet t2 1]]).bind (fin false)).bind fun t3 =>
  (pLenL t3).bind fun t4 =>
  L128_0 t3 t4 (vi 0) (cGet t0 0) (cGet t0 1) (cGet t0 2) (cGet t1 0) (cGet t1 1) (cGet t2 0) (cGet t2 1) :=
  (G_eq rfl Try.func128 rfl rfl).trans (by kernel_rfl)
theorem l128_0 (x0 x1 x2 x3 x4 x5 x6 x7 x8 x9 : A) : L128_0 x0 x1 x2 x3 x4 x5 x6 x7 x8 x9 =
  (pBin .lss false x2 x1).bind fun t5 =>
  (pBool t5).bind fun t6 =>
  brn t6 (
    (pIndexAddr 1 x0 x2).bind fun t7 =>
    (pLoadP t7).bind fun t8 =>
    ((G 160 [A.agg [x6, x7], t8]).bind (fin false)).bind fun t9 =>
    ((G 160 [A.agg [x8, x9], t8]).bind (fin false)).bind fun t10 =>
    (pBin .lss false t9 t10).bind fun t11 =>
    (pBool t11).bind fun t12 =>
    brn t12 (
      some ((vb false, []))) (
      (pBin .add false x2 (vi 1)).bind fun t13 =>
      L128_0 x0 x1 t13 x3 x4 x5 x6 x7 x8 x9)) (
    ((G 54 [A.agg [x3, x4, x5], A.agg [x6, x7]]).bind (fin false)).bind fun t14 =>
    ((G 54 [A.agg [x3, x4, x5], A.agg [x8, x9]]).bind (fin false)).bind fun t15 =>
    (pBin .neq false t14 t15).bind fun t16 =>
    (pWant t16 false).bind fun t17 =>
    (pG t16 false ((G 106 [A.agg [x6, x7]]).bind (fin false))).bind fun t18 =>
    (pPick t16 (vb true) t18).bind fun t19 =>
    (pWant t19 false).bind fun t20 =>
    (pG t19 false ((G 106 [A.agg [x8, x9]]).bind (fin false))).bind fun t21 =>
    (pPick t19 (vb true) t21).bind fun t22 =>
    (pBool t22).bind fun t23 =>
    brn t23 (
      (pBin .gtr false t14 t15).bind fun t24 =>
      some ((t24, []))) (
      ((G 113 [A.agg [x3, x4, x5], A.agg [x8, x9], A.agg [x6, x7]]).bind (fin false)).bind fun t25 =>
      (pBool t25).bind fun t26 =>
      brn t26 (
        some ((vb true, []))) (
        ((G 114 [A.agg [x6, x7], A.agg [x8, x9]]).bind (fin false)).bind fun t27 =>
        (pTup t27 0).bind fun t28 =>
        (pTup t27 1).bind fun t29 =>
        (pTup t27 2).bind fun t30 =>
        (pCells 2 t28).bind fun t31 =>
        (pCells 2 t29).bind fun t32 =>
        (pWant t30 true).bind fun t33 =>
        (pWant t30 true).bind fun t34 =>
        (pWant t30 true).bind fun t35 =>
        (pG t30 true ((G 128 [A.agg [x3, x4, x5], A.agg [cGet t31 0, cGet t31 1], A.agg [cGet t32 0, cGet t32 1]]).bind (fin false))).bind fun t36 =>
        (pPick t30 t36 (vb false)).bind fun t37 =>
        some ((t37, []))))) :=
  (H_eq Try.func128 rfl).trans (by kernel_rfl)
theorem g129 (a0 a1 a2 : A) : G 129 [a0, a1, a2] =
  (pLoadN 3 a0).bind fun t0 =>
  (pLoadN 2 a1).bind fun t1 =>
  (pLoadN 2 a2).bind fun t2 =>
  ((G 128 [t0, t1, t2]).bind (fin false)).bind fun t3 =>
  some ((t3, [])) :=
  (G_eq rfl Try.func129 rfl rfl).trans (by kernel_rfl)
theorem c136_0 (r0 : List (List A)) : C136_0 r0 = Go.Proofs.Ytheaeglaebimoaa.Abs.sortX [V.row 0] [.row 1 r0] :=
  X_eq rfl
theorem g157 (a0 : A) : G 157 [a0] =
  (pCells 2 a0).bind fun t0 =>
  ((G 178 [A.sl 1 [], A.agg [cGet t0 0, cGet t0 1]]).bind (fin false)).bind fun t1 =>
  some ((t1, [])) :=
  (G_eq rfl Try.func157 rfl rfl).trans (by kernel_rfl)
theorem g158 (a0 a1 : A) : G 158 [a0, a1] =
  (pCells 2 a0).bind fun t0 =>
  (pBin .eql false (cGet t0 0) a1).bind fun t1 =>
  (pBool t1).bind fun t2 =>
  brn t2 (
    L158_0 a1 (vi 1) (vi 0) (cGet t0 0) (cGet t0 1)) (
    L158_0 a1 (vi 0) (vi 0) (cGet t0 0) (cGet t0 1)) :=
  (G_eq rfl Try.func158 rfl rfl).trans (by kernel_rfl)
theorem l158_0 (x0 x1 x2 x3 x4 : A) : L158_0 x0 x1 x2 x3 x4 =
  (pLenL x4).bind fun t3 =>
  (pBin .lss false x2 t3).bind fun t4 =>
  (pBool t4).bind fun t5 =>
  brn t5 (
    (pIndexAddr 2 x4 x2).bind fun t6 =>
    (pLoadN 2 t6).bind fun t7 =>
    ((G 158 [t7, x0]).bind (fin false)).bind fun t8 =>
    (pBin .add false x1 t8).bind fun t9 =>
    (pBin .add false x2 (vi 1)).bind fun t10 =>
    L158_0 x0 t9 t10 x3 x4) (
    some ((x1, []))) :=
  (H_eq Try.func158 rfl).trans (by kernel_rfl)
theorem g159 (a0 : A) : G 159 [a0] =
  (pCells 2 a0).bind fun t0 =>
  (C179_0 (cGet t0 0) (cGet t0 1) []).bind fun t1 =>
  (hR 1 t1 0).bind fun t2 =>
  (C136_0 t2).bind fun t3 =>
  (hR 1 t3 0).bind fun t4 =>
  some ((A.sl 1 t4, [])) :=
  (G_eq rfl Try.func159 rfl rfl).trans (by kernel_rfl)
theorem g160 (a0 a1 : A) : G 160 [a0, a1] =
  (pCells 2 a0).bind fun t0 =>
  (pBin .eql false (cGet t0 0) a1).bind fun t1 =>
  (pBool t1).bind fun t2 =>
  brn t2 (
    (pLenL (cGet t0 1)).bind fun t3 =>
    L160_0 a1 (vi 1) (cGet t0 1) t3 (vi 0)) (
    (pLenL (cGet t0 1)).bind fun t4 =>
    L160_0 a1 (vi 0) (cGet t0 1) t4 (vi 0)) :=
  (G_eq rfl Try.func160 rfl rfl).trans (by kernel_rfl)
theorem l160_0 (x0 x1 x2 x3 x4 : A) : L160_0 x0 x1 x2 x3 x4 =
  (pBin .lss false x4 x3).bind fun t5 =>
  (pBool t5).bind fun t6 =>
  brn t6 (
    (pIndexAddr 2 x2 x4).bind fun t7 =>
    (pLoadN 2 t7).bind fun t8 =>
    (pCells 2 t8).bind fun t9 =>
    ((G 160 [A.agg [cGet t9 0, cGet t9 1], x0]).bind (fin false)).bind fun t10 =>
    (pBin .add false x1 t10).bind fun t11 =>
    (pBin .add false x4 (vi 1)).bind fun t12 =>
    L160_0 x0 t11 x2 x3 t12) (
    some ((x1, []))) :=
  (H_eq Try.func160 rfl).trans (by kernel_rfl)
theorem g178 (a0 a1 : A) : G 178 [a0, a1] =
  (pCells 2 a1).bind fun t0 =>
  ((G 99 [cGet t0 0]).bind (fin false)).bind fun t1 =>
  (pBool t1).bind fun t2 =>
  brn t2 (
    ((G 180 [a0, cGet t0 0]).bind (fin false)).bind fun t3 =>
    some ((t3, []))) (
    L178_0 a0 (vi 0) (cGet t0 0) (cGet t0 1)) :=
  (G_eq rfl Try.func178 rfl rfl).trans (by kernel_rfl)
theorem l178_0 (x0 x1 x2 x3 : A) : L178_0 x0 x1 x2 x3 =
  (pLenL x3).bind fun t4 =>
  (pBin .lss false x1 t4).bind fun t5 =>
  (pBool t5).bind fun t6 =>
  brn t6 (
    (pIndexAddr 2 x3 x1).bind fun t7 =>
    (pLoadN 2 t7).bind fun t8 =>
    ((G 178 [x0, t8]).bind (fin false)).bind fun t9 =>
    (pBin .add false x1 (vi 1)).bind fun t10 =>
    L178_0 t9 t10 x2 x3) (
    some ((x0, []))) :=
  (H_eq Try.func178 rfl).trans (by kernel_rfl)
theorem c179_0 (x0 x1 : A) (r0 : List (List A)) : C179_0 x0 x1 r0 =
  brn (okA x0) (
    brn (okA x1) (
      (pLenL x1).bind fun t0 =>
      (pBin .eql false t0 (vi 0)).bind fun t1 =>
      (pWant t1 true).bind fun t2 =>
      (pG t1 true ((G 106 [A.agg [x0, x1]]).bind (fin false))).bind fun t3 =>
      (pPick t1 t3 (vb false)).bind fun t4 =>
      (pBool t4).bind fun t5 =>
      brn t5 (
        ((G 141 [A.sl 1 r0, x0]).bind (fin true)).bind fun t6 =>
        (pUn .not t6).bind fun t7 =>
        (pBool t7).bind fun t8 =>
        brn t8 (
          brn (okA x0) (
            brn (pFit ((rLenN r0) + (rLenN [[x0]])) 16) (
              some ((A.top, [A.sl 1 (rApp r0 [[x0]])]))) (
              none)) (
            none)) (
          some ((A.top, [A.sl 1 r0])))) (
        (pLenL x1).bind fun t9 =>
        L179c0_0 x1 t9 (vi 0) r0)) (
      none)) (
    none) :=
  (V_eq rfl Try.func179 rfl rfl).trans (by kernel_rfl)
theorem l179c0_0 (x0 x1 x2 : A) (r0 : List (List A)) : L179c0_0 x0 x1 x2 r0 =
  (pBin .lss false x2 x1).bind fun t10 =>
  (pBool t10).bind fun t11 =>
  brn t11 (
    (pIndexAddr 2 x0 x2).bind fun t12 =>
    (pLoadN 2 t12).bind fun t13 =>
    (pCells 2 t13).bind fun t14 =>
    (C179_0 (cGet t14 0) (cGet t14 1) r0).bind fun t15 =>
    (hR 1 t15 0).bind fun t16 =>
    (pBin .add false x2 (vi 1)).bind fun t17 =>
    L179c0_1 x0 x1 t17 t16) (
    some ((A.top, [A.sl 1 r0]))) :=
  (H_eq Try.func179 rfl).trans (by kernel_rfl)
theorem l179c0_1 (x0 x1 x2 : A) (r0 : List (List A)) : L179c0_1 x0 x1 x2 r0 =
  (pBin .lss false x2 x1).bind fun t18 =>
  (pBool t18).bind fun t19 =>
  brn t19 (
    (pIndexAddr 2 x0 x2).bind fun t20 =>
    (pLoadN 2 t20).bind fun t21 =>
    (pCells 2 t21).bind fun t22 =>
    (C179_0 (cGet t22 0) (cGet t22 1) r0).bind fun t23 =>
    (hR 1 t23 0).bind fun t24 =>
    (pBin .add false x2 (vi 1)).bind fun t25 =>
    L179c0_1 x0 x1 t25 t24) (
    some ((A.top, [A.sl 1 r0]))) :=
  (H_eq Try.func179 rfl).trans (by kernel_rfl)
theorem g180 (a0 a1 : A) : G 180 [a0, a1] =
  L180_0 a0 a1 (vi 0) :=
  (G_eq rfl Try.func180 rfl rfl).trans (by kernel_rfl)
theorem l180_0 (x0 x1 x2 : A) : L180_0 x0 x1 x2 =
  (pLenL x0).bind fun t0 =>
  (pBin .lss false x2 t0).bind fun t1 =>
  (pG t1 true (some x0)).bind fun t2 =>
  (pG t1 true (some x2)).bind fun t3 =>
  (pG t1 true (pIndexAddr 1 t2 t3)).bind fun t4 =>
  (pG t1 true (pLoadP t4)).bind fun t5 =>
  (pG t1 true (some x1)).bind fun t6 =>
  (pG t1 true (pBin .lss false t5 t6)).bind fun t7 =>
  (pPick t1 t7 (vb false)).bind fun t8 =>
  (pBool t8).bind fun t9 =>
  brn t9 (
    (pBin .add false x2 (vi 1)).bind fun t10 =>
    L180_0 x0 x1 t10) (
    (pLenL x0).bind fun t11 =>
    (pBin .lss false x2 t11).bind fun t12 =>
    (pG t12 true (some x0)).bind fun t13 =>
    (pG t12 true (some x2)).bind fun t14 =>
    (pG t12 true (pIndexAddr 1 t13 t14)).bind fun t15 =>
    (pG t12 true (pLoadP t15)).bind fun t16 =>
    (pG t12 true (some x1)).bind fun t17 =>
    (pG t12 true (pBin .eql false t16 t17)).bind fun t18 =>
    (pPick t12 t18 (vb false)).bind fun t19 =>
    (pBool t19).bind fun t20 =>
    brn t20 (
      some ((x0, []))) (
      (pSlice 1 x0 none (some x2)).bind fun t21 =>
      (pRows 1 t21).bind fun t22 =>
      brn (pFit (rLenN t22) 16) (
        brn (okA x1) (
          brn (pFit ((rLenN t22) + (rLenN [[x1]])) 16) (
            (pSlice 1 x0 (some x2) none).bind fun t23 =>
            (pRows 1 t23).bind fun t24 =>
            brn (pFit ((rLenN (rApp t22 [[x1]])) + (rLenN t24)) 16) (
              some ((A.sl 1 (rApp (rApp t22 [[x1]]) t24), []))) (
              none)) (
            none)) (
          none)) (
        none))) :=
  (H_eq Try.func180 rfl).trans (by kernel_rfl)
end Go.Proofs.Ytheaeglaebimoaa
