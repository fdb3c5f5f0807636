/- SEVERAL TEXTS TOGETHER: U, Rd, Tr, Or, Lg, Lw, Nm, Tn, Ow, Lp, Lq, Kb, At, Ao, Om, Sb, Aq, Rp, Cp, Rq, Rr. -/
import Derived.Test.YtnbjmmldjggkfaaGreatK
import Derived.Test.YtnbjmmldjggkfaaGreatE20
import Derived.ChangeSame
import Derived.Test.YtnbjmmldjggkfaaGreatPq
/- TOOLS FOR THE PLAIN LAWS: primitives at known data; loops. -/
namespace Go.Proofs.YtnbjmmldjggkfaaGreat
open Go Go.RowKit Go.Proofs.YtnbjmmldjggkfaaGreat.Abs

abbrev ci (n : Int) : List A := [vi n]
abbrev cs (s : List UInt8) : List A := [sv s]
abbrev ints (l : List Int) : A := .sl 1 (l.map ci)
abbrev strs (l : List (List UInt8)) : A := .sl 1 (l.map cs)

section
theorem brn_true {α : Type} (x y : α) : brn true x y = x := rfl
theorem brn_false {α : Type} (x y : α) : brn false x y = y := rfl
theorem brn_ite {α : Type} (b : Bool) (x y : α) : brn b x y = if b = true then x else y := rfl
theorem neg1_lt : (-1 : Int) < 0 := by decide
theorem pBool_vb (b : Bool) : pBool (vb b) = some b := rfl
theorem pPick_vb (b : Bool) (x y : A) : pPick (vb b) x y = some (if b = true then x else y) := rfl
theorem pG_vb (b w : Bool) (x : Option A) : pG (vb b) w x = if b = w then x else some (.val undef) := rfl
theorem pWant_vb (b w : Bool) : pWant (vb b) w = some (decide (b = w)) := rfl
theorem pG_undef (w : Bool) (x : Option A) : pG (.val undef) w x = some (.val undef) := rfl
theorem pWant_undef (w : Bool) : pWant (.val undef) w = some false := rfl
theorem pLenL_sl (k : Nat) (xs : List (List A)) : pLenL (.sl k xs) = some (vi xs.length) := rfl
theorem rLen_eq (xs : List (List A)) : rLen xs = vi xs.length := rfl
theorem rLenN_eq (xs : List (List A)) : rLenN xs = xs.length := rfl
theorem pLenS_sv (l : List UInt8) : pLenS (sv l) = some (vi l.length) := rfl
theorem fin_pair (a : A) : fin false (a, []) = some a := rfl
theorem fin_vb (b c : Bool) : fin c (vb b, []) = some (vb b) := by cases c <;> rfl
theorem fin_vi (c : Bool) (n : Int) : fin c (vi n, []) = some (vi n) := by cases c <;> rfl
theorem pUn_not (b : Bool) : pUn .not (vb b) = some (vb (!b)) := rfl
theorem pBin_lss (b : Bool) (x y : Int) : pBin .lss b (vi x) (vi y) = some (vb (decide (x < y))) := rfl
theorem pBin_leq (b : Bool) (x y : Int) : pBin .leq b (vi x) (vi y) = some (vb (decide (x ≤ y))) := rfl
theorem pBin_gtr (b : Bool) (x y : Int) : pBin .gtr b (vi x) (vi y) = some (vb (decide (y < x))) := rfl
theorem pBin_geq (b : Bool) (x y : Int) : pBin .geq b (vi x) (vi y) = some (vb (decide (y ≤ x))) := rfl
theorem pBin_eql (b : Bool) (x y : Int) : pBin .eql b (vi x) (vi y) = some (vb (decide (x = y))) := rfl
theorem pBin_neq (b : Bool) (x y : Int) : pBin .neq b (vi x) (vi y) = some (vb (!decide (x = y))) := rfl
theorem pBinY_lss (b : Bool) (x y : Int) : pBin .lss b (vy x) (vy y) = some (vb (decide (x < y))) := rfl
theorem pBinY_leq (b : Bool) (x y : Int) : pBin .leq b (vy x) (vy y) = some (vb (decide (x ≤ y))) := rfl
theorem pBinY_gtr (b : Bool) (x y : Int) : pBin .gtr b (vy x) (vy y) = some (vb (decide (y < x))) := rfl
theorem pBinY_geq (b : Bool) (x y : Int) : pBin .geq b (vy x) (vy y) = some (vb (decide (y ≤ x))) := rfl
theorem pBinY_eql (b : Bool) (x y : Int) : pBin .eql b (vy x) (vy y) = some (vb (decide (x = y))) := rfl
theorem pBinY_neq (b : Bool) (x y : Int) : pBin .neq b (vy x) (vy y) = some (vb (!decide (x = y))) := rfl
theorem pBin_beql (x y : Bool) : pBin .eql true (vb x) (vb y) = some (vb (decide (x = y))) := rfl
theorem pBin_bneq (x y : Bool) : pBin .neq true (vb x) (vb y) = some (vb (!decide (x = y))) := rfl
theorem pBin_add (b : Bool) (x y : Int) : pBin .add b (vi x) (vi y) = ck (x + y) := by cases b <;> rfl
theorem pBin_sub (b : Bool) (x y : Int) : pBin .sub b (vi x) (vi y) = ck (x - y) := by cases b <;> rfl
theorem pBin_mul (b : Bool) (x y : Int) : pBin .mul b (vi x) (vi y) = ck (x * y) := by cases b <;> rfl
theorem ck_le {n : Int} (h1 : -9223372036854775808 ≤ n) (h2 : n ≤ 9223372036854775807) : ck n = some (vi n) := if_pos ⟨h1, h2⟩
theorem pBin_seql (b : Bool) (x y : List UInt8) : pBin .eql b (sv x) (sv y) = some (vb (decide (x = y))) := rfl
theorem pBin_sneq (b : Bool) (x y : List UInt8) : pBin .neq b (sv x) (sv y) = some (vb (!decide (x = y))) := rfl
theorem pBin_slss (b : Bool) (x y : List UInt8) : pBin .lss b (sv x) (sv y) = some (vb (sLt x y)) := rfl
theorem pLoadP_0 (a : A) (l : List A) : pLoadP (.elt (a :: l) 0) = some a := rfl
theorem pAdd_elt (cs : List A) (off n : Nat) : pAdd (.elt cs off) n = some (.elt cs (off + n)) := rfl
theorem pField_agg (off : Nat) (cs : List A) : pField off (.agg cs) = cs[off]? := rfl
theorem pCells_agg (n : Nat) (ds : List A) : pCells n (.agg ds) = if ds.length = n ∧ ds.all okA = true then some ds else none := rfl
theorem cGet_zero (a : A) (l : List A) : cGet (a :: l) 0 = a := rfl
theorem cGet_one (a b : A) (l : List A) : cGet (a :: b :: l) 1 = b := rfl
theorem cGet_two (a b c : A) (l : List A) : cGet (a :: b :: c :: l) 2 = c := rfl
theorem cGet_three (a b c d : A) (l : List A) : cGet (a :: b :: c :: d :: l) 3 = d := rfl
theorem okA_sl (k : Nat) (xs : List (List A)) : okA (.sl k xs) = true := rfl
theorem okA_elt (cs : List A) (o : Nat) : okA (.elt cs o) = true := rfl
theorem okA_fn (f : FuncId) (l : List A) : okA (.fn f l) = true := rfl
theorem okA_vi (n : Int) : okA (vi n) = true := rfl
theorem okA_vb (b : Bool) : okA (vb b) = true := rfl
theorem okA_sv (l : List UInt8) : okA (sv l) = true := rfl
theorem pIx_vi (n : Nat) (i : Int) : pIx n (vi i) = if 0 ≤ i ∧ i < (n : Int) then some i.toNat else none := rfl
theorem pIx_lt {n i : Nat} (h : i < n) : pIx n (vi i) = some i := by
  rw [pIx_vi, if_pos ⟨by omega, by omega⟩]; simp
theorem pRows_sl (k : Nat) (xs : List (List A)) : pRows k (.sl k xs) = some xs := if_pos rfl
theorem pTup_0 (a : A) (l : List A) : pTup (.tup (a :: l)) 0 = some a := rfl
theorem pTup_1 (a b : A) (l : List A) : pTup (.tup (a :: b :: l)) 1 = some b := rfl
theorem pTup_2 (a b c : A) (l : List A) : pTup (.tup (a :: b :: c :: l)) 2 = some c := rfl
theorem pMax_vi (x y : Int) : pMax (vi x) (vi y) = some (vi (if x < y then y else x)) := by
  unfold pMax; simp
theorem pMin_vi (x y : Int) : pMin (vi x) (vi y) = some (vi (if y < x then y else x)) := by
  unfold pMin; simp
theorem hD_eq (a : A) (l : List A) (i : Nat) : hD (a, l) i = l[i]? := rfl
theorem hR_0 (k : Nat) (a : A) (xs : List (List A)) (l : List A) : hR k (a, .sl k xs :: l) 0 = some xs := by simp [hR]
theorem hR_1 (k : Nat) (a b : A) (xs : List (List A)) (l : List A) : hR k (a, b :: .sl k xs :: l) 1 = some xs := by simp [hR]
theorem hR_2 (k : Nat) (a b c : A) (xs : List (List A)) (l : List A) : hR k (a, b :: c :: .sl k xs :: l) 2 = some xs := by simp [hR]
theorem callc_fn {f : FuncId} {caps args : List A} {c : Bool} (h : K.pureF f = true) : DX.run K (MM K) (.callc (.fn f caps) args c) = (G f (args ++ caps)).bind (fin c) := by
  simp only [DX.run, h, if_true]

theorem pIndexAddr_map {α : Type} {k : Nat} {f : α → List A} {xs : List α} {i : Nat} (h : i < xs.length) : pIndexAddr k (.sl k (xs.map f)) (vi i) = some (.elt (f xs[i]) 0) := by
  simp only [pIndexAddr, if_true, List.length_map, pIx_lt h, Option.map_some]
  simp [List.getD_eq_getElem?_getD, h]
theorem add_one {i n : Nat} (h : i < n) (hn : n ≤ 9223372036854775807) : pBin .add false (vi i) (vi 1) = some (vi ((i + 1 : Nat) : Int)) := by
  rw [pBin_add, ck_le (by omega) (by omega)]; rfl
/-! ### Windows -/
theorem pB_vi (d top : Nat) (z : Int) : pB d top (some (vi z)) = if 0 ≤ z ∧ z ≤ (top : Int) then some z.toNat else none := rfl
theorem pB_le {d top n : Nat} (h : n ≤ top) : pB d top (some (vi n)) = some n := by
  rw [pB_vi, if_pos ⟨by omega, by omega⟩]; simp
theorem pB_none_le {d top : Nat} (h : d ≤ top) : pB d top none = some d := if_pos h
theorem rCnt_eq (xs : List (List A)) : rCnt xs = xs.length := rfl
theorem rRem_eq (xs : List (List A)) (off : Nat) : rRem xs off = xs.length - off := rfl
theorem rMin_eq (ys : List (List A)) (n : Nat) : rMin ys n = vi (min ys.length n : Nat) := rfl
theorem rTake_eq (ys : List (List A)) (n : Nat) : rTake ys n = ys.take n := rfl
theorem rWin_eq (xs : List (List A)) (off n : Nat) : rWin xs off n = (xs.drop off).take n := rfl
theorem rOver_eq (xs : List (List A)) (off : Nat) (ys : List (List A)) : rOver xs off ys = xs.take off ++ ys ++ xs.drop (off + ys.length) := rfl
theorem nSub_eq (a b : Nat) : nSub a b = a - b := rfl
theorem upto {P : Nat → Prop} {n : Nat} (h0 : P n) (hs : ∀ i, i < n → P (i + 1) → P i) : ∀ i, i ≤ n → P i := by
  intro i hi
  obtain ⟨k, hk⟩ : ∃ k, n = i + k := ⟨n - i, by omega⟩
  induction k generalizing i with
  | zero => rw [show i = n by omega]; exact h0
  | succ k ih => exact hs i (by omega) (ih (i + 1) (by omega) (by omega))

theorem drop_cons {α : Type} {xs : List α} {i : Nat} (h : i < xs.length) : xs.drop i = xs[i] :: xs.drop (i + 1) := List.drop_eq_getElem_cons h

/-- The evaluation laws at once. -/
theorem evs :
    ((-1 : Int) < 0) ∧
    (∀ {α : Type} (x y : α), brn true x y = x) ∧
    (∀ {α : Type} (x y : α), brn false x y = y) ∧
    (∀ {α : Type} (b : Bool) (x y : α), brn b x y = if b = true then x else y) ∧
    (∀ {α β : Type} (a : α) (f : α → Option β), (some a).bind f = f a) ∧
    (∀ {α β : Type} (f : α → Option β), none.bind f = none) ∧
    (∀ (b : Bool), pBool (vb b) = some b) ∧
    (∀ (b : Bool) (x y : A), pPick (vb b) x y = some (if b = true then x else y)) ∧
    (∀ (b w : Bool) (x : Option A), pG (vb b) w x = if b = w then x else some (A.val undef)) ∧
    (∀ (b w : Bool), pWant (vb b) w = some (decide (b = w))) ∧
    (∀ (w : Bool) (x : Option A), pG (A.val undef) w x = some (A.val undef)) ∧
    (∀ (w : Bool), pWant (A.val undef) w = some false) ∧
    (∀ (k : Nat) (xs : List (List A)), pLenL (A.sl k xs) = some (vi ↑xs.length)) ∧
    (∀ (xs : List (List A)), rLen xs = vi ↑xs.length) ∧
    (∀ (xs : List (List A)), rLenN xs = xs.length) ∧
    (∀ (l : List UInt8), pLenS (sv l) = some (vi ↑l.length)) ∧
    (∀ (a : A), fin false (a, []) = some a) ∧
    (∀ (b c : Bool), fin c (vb b, []) = some (vb b)) ∧
    (∀ (c : Bool) (n : Int), fin c (vi n, []) = some (vi n)) ∧
    (∀ (b : Bool), pUn UnOp.not (vb b) = some (vb !b)) ∧
    (∀ (b : Bool) (x y : Int), pBin BinOp.lss b (vi x) (vi y) = some (vb (decide (x < y)))) ∧
    (∀ (b : Bool) (x y : Int), pBin BinOp.leq b (vi x) (vi y) = some (vb (decide (x ≤ y)))) ∧
    (∀ (b : Bool) (x y : Int), pBin BinOp.gtr b (vi x) (vi y) = some (vb (decide (y < x)))) ∧
    (∀ (b : Bool) (x y : Int), pBin BinOp.geq b (vi x) (vi y) = some (vb (decide (y ≤ x)))) ∧
    (∀ (b : Bool) (x y : Int), pBin BinOp.eql b (vi x) (vi y) = some (vb (decide (x = y)))) ∧
    (∀ (b : Bool) (x y : Int), pBin BinOp.neq b (vi x) (vi y) = some (vb !decide (x = y))) ∧
    (∀ (b : Bool) (x y : Int), pBin BinOp.lss b (vy x) (vy y) = some (vb (decide (x < y)))) ∧
    (∀ (b : Bool) (x y : Int), pBin BinOp.leq b (vy x) (vy y) = some (vb (decide (x ≤ y)))) ∧
    (∀ (b : Bool) (x y : Int), pBin BinOp.gtr b (vy x) (vy y) = some (vb (decide (y < x)))) ∧
    (∀ (b : Bool) (x y : Int), pBin BinOp.geq b (vy x) (vy y) = some (vb (decide (y ≤ x)))) ∧
    (∀ (b : Bool) (x y : Int), pBin BinOp.eql b (vy x) (vy y) = some (vb (decide (x = y)))) ∧
    (∀ (b : Bool) (x y : Int), pBin BinOp.neq b (vy x) (vy y) = some (vb !decide (x = y))) ∧
    (∀ (x y : Bool), pBin BinOp.eql true (vb x) (vb y) = some (vb (decide (x = y)))) ∧
    (∀ (x y : Bool), pBin BinOp.neq true (vb x) (vb y) = some (vb !decide (x = y))) ∧
    (∀ (b : Bool) (x y : Int), pBin BinOp.add b (vi x) (vi y) = ck (x + y)) ∧
    (∀ (b : Bool) (x y : Int), pBin BinOp.sub b (vi x) (vi y) = ck (x - y)) ∧
    (∀ (b : Bool) (x y : Int), pBin BinOp.mul b (vi x) (vi y) = ck (x * y)) ∧
    (∀ (b : Bool) (x y : List UInt8), pBin BinOp.eql b (sv x) (sv y) = some (vb (decide (x = y)))) ∧
    (∀ (b : Bool) (x y : List UInt8), pBin BinOp.neq b (sv x) (sv y) = some (vb !decide (x = y))) ∧
    (∀ (b : Bool) (x y : List UInt8), pBin BinOp.lss b (sv x) (sv y) = some (vb (sLt x y))) ∧
    (∀ (a : A) (l : List A), pLoadP (A.elt (a :: l) 0) = some a) ∧
    (∀ (cs : List A) (off n : Nat), pAdd (A.elt cs off) n = some (A.elt cs (off + n))) ∧
    (∀ (off : Nat) (cs : List A), pField off (A.agg cs) = cs[off]?) ∧
    (∀ (n : Nat) (ds : List A), pCells n (A.agg ds) = if ds.length = n ∧ ds.all okA = true then some ds else none) ∧
    (∀ (a : A) (l : List A), cGet (a :: l) 0 = a) ∧
    (∀ (a b : A) (l : List A), cGet (a :: b :: l) 1 = b) ∧
    (∀ (a b c : A) (l : List A), cGet (a :: b :: c :: l) 2 = c) ∧
    (∀ (a b c d : A) (l : List A), cGet (a :: b :: c :: d :: l) 3 = d) ∧
    (∀ (k : Nat) (xs : List (List A)), okA (A.sl k xs) = true) ∧
    (∀ (cs : List A) (o : Nat), okA (A.elt cs o) = true) ∧
    (∀ (f : FuncId) (l : List A), okA (A.fn f l) = true) ∧
    (∀ (n : Int), okA (vi n) = true) ∧
    (∀ (b : Bool), okA (vb b) = true) ∧
    (∀ (l : List UInt8), okA (sv l) = true) ∧
    (∀ (k : Nat) (xs : List (List A)), pRows k (A.sl k xs) = some xs) ∧
    (∀ (a : A) (l : List A), pTup (A.tup (a :: l)) 0 = some a) ∧
    (∀ (a b : A) (l : List A), pTup (A.tup (a :: b :: l)) 1 = some b) ∧
    (∀ (a b c : A) (l : List A), pTup (A.tup (a :: b :: c :: l)) 2 = some c) ∧
    (∀ (x y : Int), pMax (vi x) (vi y) = some (vi (if x < y then y else x))) ∧
    (∀ (x y : Int), pMin (vi x) (vi y) = some (vi (if y < x then y else x))) ∧
    (∀ (a : A) (l : List A) (i : Nat), hD (a, l) i = l[i]?) ∧
    (∀ (k : Nat) (a : A) (xs : List (List A)) (l : List A), hR k (a, A.sl k xs :: l) 0 = some xs) ∧
    (∀ (k : Nat) (a b : A) (xs : List (List A)) (l : List A), hR k (a, b :: A.sl k xs :: l) 1 = some xs) ∧
    (∀ (k : Nat) (a b c : A) (xs : List (List A)) (l : List A), hR k (a, b :: c :: A.sl k xs :: l) 2 = some xs) ∧
    (∀ {α : Type} {a : α} {l : List α} {f : α → Bool}, (a :: l).all f = (f a && l.all f)) ∧
    (∀ {α : Type} {f : α → Bool}, ([] : List α).all f = true) ∧
    (∀ {α : Type} {a : α} {l : List α}, (a :: l).length = l.length + 1) ∧
    (∀ {α : Type}, ([] : List α).length = 0) ∧
    (∀ {α β : Type} {l : List α} (f : α → β), (List.map f l).length = l.length) ∧
    (∀ (n : Nat), 0 + n = n) ∧
    (∀ (b : Bool), (b && b) = b) ∧
    (∀ (b : Bool), (b && true) = b) ∧
    (∀ (p : Prop), (p ∧ p) = p) ∧
    (∀ {α : Type} {_x : Decidable True} (t e : α), (if True then t else e) = t) ∧
    (∀ {α : Type} {_x : Decidable False} (t e : α), (if False then t else e) = e) ∧
    ((true = false) = False) ∧
    ((false = true) = False) ∧
    (∀ (_h : Decidable True), decide True = true) ∧
    (∀ (_h : Decidable False), decide False = false) ∧
    ((!true) = false) ∧
    ((!false) = true) ∧
    (∀ (b : Bool), ((!b) = true) = (b = false)) ∧
    (∀ {p : Prop} [Decidable p], (decide p = true) = p) ∧
    (∀ {p : Prop} {x : Decidable p}, decide p = false ↔ ¬p) ∧
    (∀ (a : Int), ¬a < a) ∧
    ((¬True) = False) ∧
    ((¬False) = True) ∧
    (∀ {α : Type} (a b : α), (if True then a else b) = a) ∧
    (∀ {α : Type} (a b : α), (if False then a else b) = b) :=
  ⟨@neg1_lt, @brn_true, @brn_false, @brn_ite, @Option.bind_some.{0,0}, @Option.bind_none.{0,0}, @pBool_vb, @pPick_vb, @pG_vb, @pWant_vb, @pG_undef, @pWant_undef, @pLenL_sl, @rLen_eq, @rLenN_eq, @pLenS_sv, @fin_pair, @fin_vb, @fin_vi, @pUn_not, @pBin_lss, @pBin_leq, @pBin_gtr, @pBin_geq, @pBin_eql, @pBin_neq, @pBinY_lss, @pBinY_leq, @pBinY_gtr, @pBinY_geq, @pBinY_eql, @pBinY_neq, @pBin_beql, @pBin_bneq, @pBin_add, @pBin_sub, @pBin_mul, @pBin_seql, @pBin_sneq, @pBin_slss, @pLoadP_0, @pAdd_elt, @pField_agg, @pCells_agg, @cGet_zero, @cGet_one, @cGet_two, @cGet_three, @okA_sl, @okA_elt, @okA_fn, @okA_vi, @okA_vb, @okA_sv, @pRows_sl, @pTup_0, @pTup_1, @pTup_2, @pMax_vi, @pMin_vi, @hD_eq, @hR_0, @hR_1, @hR_2, @List.all_cons.{0}, @List.all_nil.{0}, @List.length_cons.{0}, @List.length_nil.{0}, @List.length_map.{0,0}, @Nat.zero_add, @Bool.and_self, @Bool.and_true, @and_self, @if_true.{1}, @if_false.{1}, @Bool.true_eq_false, @Bool.false_eq_true, @decide_true, @decide_false, @Bool.not_true, @Bool.not_false, @Bool.not_eq_true', @decide_eq_true_eq, @decide_eq_false_iff_not, @Int.lt_irrefl, @not_true_eq_false, @not_false_eq_true, @ite_true.{1}, @ite_false.{1}⟩
end

end Go.Proofs.YtnbjmmldjggkfaaGreat
/- READERS OF STRUCTS. -/
namespace Go.Proofs.YtnbjmmldjggkfaaGreat
open Go Go.RowKit Go.ChangeShapes Go.Deep Go.Proofs.YtnbjmmldjggkfaaGreat.Abs

section
variable {P : Program} {t : Nat} {H : Type} {enc : TypeId × Value → H} {w : World} {base : Nat} {spare : Nat → Bool} {held : Bool} {fuel : Nat} {cs : List Value} {x : DataW H × List MemPlace}

end

end Go.Proofs.YtnbjmmldjggkfaaGreat
/- TERMS: as data, as cells, and read. -/
namespace Go.Proofs.YtnbjmmldjggkfaaGreat
open Go Go.RowKit Go.ChangeShapes Go.Deep Go.Proofs.YtnbjmmldjggkfaaGreat.Abs

inductive T where
  | mk (name : List UInt8) (args : List T)

def T.name : T → List UInt8 | .mk n _ => n
def T.args : T → List T | .mk _ us => us
theorem T.eta (t : T) : T.mk t.name t.args = t := by cases t; rfl

mutual
def tcells : T → List A
  | .mk n us => [sv n, .sl 2 (tcellsL us)]
def tcellsL : List T → List (List A)
  | [] => []
  | t :: ts => tcells t :: tcellsL ts
end
theorem tcellsL_map : ∀ ts : List T, tcellsL ts = ts.map tcells
  | [] => rfl
  | t :: ts => by simp [tcellsL, tcellsL_map ts]
theorem tcells_eq (t : T) : tcells t = [sv t.name, .sl 2 (t.args.map tcells)] := by
  cases t; simp [tcells, T.name, T.args, tcellsL_map]
abbrev tm (t : T) : A := .agg [sv t.name, .sl 2 (t.args.map tcells)]
abbrev tms (ts : List T) : A := .sl 2 (ts.map tcells)

theorem pLoadN_tcells (t : T) : pLoadN 2 (.elt (tcells t) 0) = some (.agg [sv t.name, .sl 2 (t.args.map tcells)]) := by rw [tcells_eq]; rfl

mutual
/-- What a term holds: letters of names and arguments. -/
def tsz : T → Nat
  | .mk n us => n.length + us.length + tszL us
def tszL : List T → Nat
  | [] => 0
  | t :: ts => tsz t + tszL ts
end
theorem tsz_eq (t : T) : tsz t = t.name.length + t.args.length + tszL t.args := by cases t; simp [tsz, T.name, T.args]
theorem tsz_mem : ∀ {ts : List T} {t : T}, t ∈ ts → tsz t ≤ tszL ts
  | [], _, h => by cases h
  | u :: us, t, h => by
    simp only [tszL]
    rcases List.mem_cons.1 h with rfl | h
    · omega
    · have := tsz_mem h; omega

mutual
/-- Strings and slices have lengths that an int holds. -/
def twf : T → Prop
  | .mk n us => n.length ≤ 9223372036854775807 ∧ us.length ≤ 9223372036854775807 ∧ twfL us
def twfL : List T → Prop
  | [] => True
  | t :: ts => twf t ∧ twfL ts
end
theorem twf_eq (t : T) : twf t ↔ t.name.length ≤ 9223372036854775807 ∧ t.args.length ≤ 9223372036854775807 ∧ twfL t.args := by cases t; simp [twf, T.name, T.args]
theorem twfL_iff : ∀ ts : List T, twfL ts ↔ ∀ t ∈ ts, twf t
  | [] => by simp [twfL]
  | t :: ts => by simp [twfL, twfL_iff ts]

theorem T.ind {p : T → Prop} (h : ∀ t, (∀ u ∈ t.args, p u) → p t) : ∀ t, p t := by
  intro t
  induction hn : SizeOf.sizeOf t using Nat.strongRecOn generalizing t with
  | ind n ih =>
    subst hn
    refine h t fun u hu => ih (SizeOf.sizeOf u) ?_ u rfl
    cases t with
    | mk nm us =>
      have := List.sizeOf_lt_of_mem hu
      simp only [T.args] at this
      simp only [T.mk.sizeOf_spec]
      omega

section
variable {P : Program} {tT tS : Nat}

end

end Go.Proofs.YtnbjmmldjggkfaaGreat
/- ORDERINGS: as data, and read. -/
namespace Go.Proofs.YtnbjmmldjggkfaaGreat
open Go Go.RowKit Go.ChangeShapes Go.Deep Go.Proofs.YtnbjmmldjggkfaaGreat.Abs

structure Ord' where
  syms : List (List UInt8)
  ws : List Int
  var : Int

abbrev ocells (o : Ord') : List A := [strs o.syms, ints o.ws, vi o.var]
abbrev od (o : Ord') : A := .agg [strs o.syms, ints o.ws, vi o.var]
def owf (o : Ord') : Prop := ((∀ s ∈ o.syms, s.length ≤ 9223372036854775807) ∧ o.syms.length ≤ 9223372036854775807) ∧ ((∀ x ∈ o.ws, I64 x) ∧ o.ws.length ≤ 9223372036854775807) ∧ I64 o.var

end Go.Proofs.YtnbjmmldjggkfaaGreat
/- WHAT THE LAWS' HELPERS SHARE: what is left of a size, rows that are filled. -/
namespace Go.Proofs.YtnbjmmldjggkfaaGreat
open Go Go.RowKit Go.Proofs.YtnbjmmldjggkfaaGreat.Abs

set_option linter.unusedSimpArgs false
set_option linter.unusedVariables false
set_option maxHeartbeats 1000000

def left1 (left n : Int) : Int := if 0 ≤ left - n then left - n else -1

/-! ### Copies -/
def part {α : Type} (f : α → List A) (z : List A) (xs : List α) (i : Nat) : List (List A) := (xs.take i).map f ++ List.replicate (xs.length - i) z

section
variable {α : Type} {f : α → List A} {z : List A} {xs : List α}
theorem part_zero : rRep xs.length z = part f z xs 0 := by simp [part, rRep]
theorem part_end : part f z xs xs.length = xs.map f := by simp [part]
theorem part_length {i : Nat} (h : i ≤ xs.length) : (part f z xs i).length = xs.length := by simp [part]; omega
theorem part_get {i : Nat} (h : i < xs.length) : rGet (part f z xs i) i = some z := by
  unfold rGet part
  rw [List.getElem?_append_right (by simp; omega)]
  simp
  rw [List.getElem?_replicate, if_pos (by omega)]
theorem part_set {i : Nat} (h : i < xs.length) : rSet (part f z xs i) i (f xs[i]) = part f z xs (i + 1) := by
  unfold rSet part
  have e : xs.length - i = (xs.length - (i + 1)) + 1 := by omega
  rw [List.set_append_right _ _ (by simp; omega), e, List.replicate_succ]
  simp only [List.length_map, List.length_take, Nat.min_eq_left (Nat.le_of_lt h), Nat.sub_self, List.set_cons_zero]
  rw [← List.take_append_getElem h, List.map_append]
  simp
end
theorem cOver_2 (a b c d : A) : cOver [a, b] 0 [c, d] = [c, d] := rfl
theorem pMake_len {b n : Nat} (hb : (b : Int) * (n : Int) ≤ 281474976710656) (hn : n ≤ 1048576) : pMake b (vi n) (vi n) = some n := by
  show (if _ then _ else _) = _
  rw [if_pos (show FitM b n n from ⟨by omega, Int.le_refl _, hb, by omega⟩), Int.toNat_natCast]

theorem pSlice_take {k : Nat} {xs : List (List A)} {i : Nat} (h : i ≤ xs.length) : pSlice k (.sl k xs) none (some (vi i)) = some (.sl k (xs.take i)) := by
  simp only [pSlice, pBound, Option.bind_some]
  rw [if_pos ⟨trivial, Int.le_refl _, by omega, by omega⟩]
  simp
theorem pSlice_drop {k : Nat} {xs : List (List A)} {i : Nat} (h : i ≤ xs.length) : pSlice k (.sl k xs) (some (vi i)) none = some (.sl k (xs.drop i)) := by
  simp only [pSlice, pBound, Option.bind_some]
  rw [if_pos ⟨trivial, by omega, by omega, by omega⟩]
  simp

/-! ### Marks -/
def iota (k : Int) : Nat → List Int
  | 0 => []
  | n + 1 => k :: iota (k + 1) n
section
variable {α : Type} {f : α → List A} (M r : List α) (x : α)
end
section
variable (M R : List (List A)) (x y : List A)
end
end Go.Proofs.YtnbjmmldjggkfaaGreat
/- THE LAWS' HELPERS: sizes, copies, comparisons. -/
namespace Go.Proofs.YtnbjmmldjggkfaaGreat
open Go Go.RowKit Go.Proofs.YtnbjmmldjggkfaaGreat.Abs

set_option linter.unusedSimpArgs false
set_option linter.unusedVariables false
set_option maxHeartbeats 1000000

def strsSz : List (List UInt8) → Nat
  | [] => 0
  | s :: l => s.length + strsSz l

/-- What an ordering holds. -/
def osz (o : Ord') : Nat := o.syms.length + strsSz o.syms + o.ws.length

/-! ### Copies -/
/-! ### Comparisons: what is equal is found equal -/
end Go.Proofs.YtnbjmmldjggkfaaGreat
/- NAMES: of variables, of symbols. -/
namespace Go.Proofs.YtnbjmmldjggkfaaGreat
open Go Go.RowKit Go.Proofs.YtnbjmmldjggkfaaGreat.Abs

set_option linter.unusedSimpArgs false
set_option linter.unusedVariables false
set_option maxHeartbeats 1000000

theorem pIndexS_at {l : List UInt8} {i : Nat} (h : i < l.length) : pIndexS (sv l) (vi i) = some (vy (l[i].toNat : Int)) := by
  show (if _ then _ else _) = _
  rw [if_pos ⟨by omega, by simpa using h⟩]
  simp [List.getD_eq_getElem?_getD, h]
theorem pIndexS_0 {c : UInt8} {l : List UInt8} : pIndexS (sv (c :: l)) (vi 0) = some (vy (c.toNat : Int)) := pIndexS_at (i := 0) (l := c :: l) (by simp)

def inB (lo hi x : Int) : Bool := decide (lo ≤ x) && decide (x ≤ hi)
theorem within_eq (x a b : Int) : G 85 [vi x, vi a, vi b] = some (vb (inB a b x), []) := by
  rw [g85]
  by_cases h : a ≤ x <;> simp -implicitDefEqProofs only [evs, Nat.reduceAdd, reduceIte, h, inB, Bool.true_and, Bool.false_and]
theorem l1In_eq (x a b : Int) : G 76 [vi x, vi a, vi b] = some (vb (inB a b x), []) := by
  rw [g76]
  by_cases h : a ≤ x <;> simp -implicitDefEqProofs only [evs, Nat.reduceAdd, reduceIte, h, inB, Bool.true_and, Bool.false_and]

def upc (c : UInt8) : Bool := inB 65 90 (c.toNat : Int)
def lowc (c : UInt8) : Bool := inB 97 122 (c.toNat : Int)
def digc (c : UInt8) : Bool := inB 48 57 (c.toNat : Int)
def smallc (c : UInt8) : Bool := lowc c || digc c

theorem isUpper_eq (c : UInt8) : G 146 [vy (c.toNat : Int)] = some (vb (upc c), []) := by
  rw [g146]
  by_cases h : 65 ≤ (c.toNat : Int) <;> simp -implicitDefEqProofs only [evs, Nat.reduceAdd, reduceIte, h, upc, inB, Bool.true_and, Bool.false_and]
theorem isLower_eq (c : UInt8) : G 119 [vy (c.toNat : Int)] = some (vb (lowc c), []) := by
  rw [g119]
  by_cases h : 97 ≤ (c.toNat : Int) <;> simp -implicitDefEqProofs only [evs, Nat.reduceAdd, reduceIte, h, lowc, inB, Bool.true_and, Bool.false_and]
theorem isDigit_eq (c : UInt8) : G 120 [vy (c.toNat : Int)] = some (vb (digc c), []) := by
  rw [g120]
  by_cases h : 48 ≤ (c.toNat : Int) <;> simp -implicitDefEqProofs only [evs, Nat.reduceAdd, reduceIte, h, digc, inB, Bool.true_and, Bool.false_and]
theorem l2Small_eq (c : UInt8) : G 115 [vy (c.toNat : Int)] = some (vb (smallc c), []) := by
  rw [g115]
  by_cases h : 97 ≤ (c.toNat : Int) <;> by_cases h2 : (c.toNat : Int) ≤ 122 <;> by_cases h3 : 48 ≤ (c.toNat : Int) <;> simp -implicitDefEqProofs only [evs, Nat.reduceAdd, reduceIte, h, h2, h3, smallc, lowc, digc, inB, Bool.true_and, Bool.false_and, Bool.or_true, Bool.or_false, Bool.true_or, Bool.false_or]

/-- A variable's name. -/
def varN : List UInt8 → Bool
  | [] => false
  | c :: r => upc c && (r.all smallc && decide (r.length ≤ 3))

theorem inB_len (r : List UInt8) (k : Nat) (hk : k ≤ 9) : inB 1 (k + 1 : Nat) (((r.length + 1 : Nat)) : Int) = decide (r.length ≤ k) := by
  unfold inB
  have : decide ((1 : Int) ≤ ((r.length + 1 : Nat) : Int)) = true := by simp; omega
  rw [this, Bool.true_and]
  by_cases h : r.length ≤ k <;> simp [h] <;> omega

theorem isVariable_loop (s : List UInt8) (hs : s.length ≤ 9223372036854775807) : ∀ i, i ≤ s.length → 1 ≤ i → L113_0 (sv s) (vi (s.length : Nat)) (vi i) = some (vb ((s.drop i).all smallc && inB 1 4 (s.length : Nat)), []) := by
  refine upto (P := fun i => 1 ≤ i → L113_0 (sv s) (vi (s.length : Nat)) (vi i) = some (vb ((s.drop i).all smallc && inB 1 4 (s.length : Nat)), [])) ?_ ?_
  · intro _
    rw [l113_0, List.drop_length]
    have e := within_eq (s.length : Nat) 1 4
    simp -implicitDefEqProofs only [evs, Nat.reduceAdd, reduceIte, e, Bool.true_and]
  · intro i hi ih h1
    have ih := ih (by omega)
    have hn : ¬ ((i : Int) = 0) := by omega
    have hp : (0 : Int) < (i : Int) := by omega
    have hlt : (i : Int) < ((s.length : Nat) : Int) := by omega
    have h5 := add_one hi hs
    have hx := pIndexS_at hi
    have e1 := isLower_eq s[i]
    have e2 := isDigit_eq s[i]
    rw [l113_0, drop_cons hi]
    generalize s[i] = ch at *
    rw [List.all_cons]
    cases h8 : lowc ch <;> cases h9 : digc ch <;> rw [h8] at e1 <;> rw [h9] at e2 <;> simp -implicitDefEqProofs only [evs, Nat.reduceAdd, reduceIte, hn, hp, hlt, hx, e1, e2, h5, ih, smallc, h8, h9, Bool.true_and, Bool.false_and, Bool.or_true, Bool.or_false, Bool.true_or, Bool.false_or]

theorem isVariable_eq (s : List UInt8) (hs : s.length ≤ 9223372036854775807) : G 113 [sv s] = some (vb (varN s), []) := by
  rw [g113, pLenS_sv, Option.bind_some]
  cases s with
  | nil =>
    rw [l113_0]
    have e := within_eq ((0 : Nat) : Int) 1 4
    simp -implicitDefEqProofs only [evs, Nat.reduceAdd, reduceIte, e]
    rfl
  | cons c r =>
    have key := isVariable_loop (c :: r) hs 1 (by simp) (Nat.le_refl _)
    simp only [List.drop_succ_cons, List.drop_zero] at key
    have e' : inB 1 4 (((c :: r).length : Nat) : Int) = decide (r.length ≤ 3) := inB_len r 3 (by decide)
    rw [e'] at key
    rw [l113_0]
    have h5 : pBin .add false (vi 0) (vi 1) = some (vi ((1 : Nat) : Int)) := by rw [pBin_add, ck_le (by decide) (by decide)]; rfl
    have h6 : (0 : Int) < (((c :: r).length : Nat) : Int) := Int.natCast_pos.2 (Nat.succ_pos _)
    have e1 := isUpper_eq c
    generalize ((((c :: r).length : Nat)) : Int) = n at *
    cases hu : upc c <;> rw [hu] at e1 <;> simp -implicitDefEqProofs only [evs, Nat.reduceAdd, reduceIte, h6, pIndexS_0, e1, h5, key, varN, hu, Bool.true_and, Bool.false_and]

theorem l2Var_loop (s : List UInt8) (hs : s.length ≤ 9223372036854775807) : ∀ i, i ≤ s.length → L82_0 (sv s) (vi i) = some (vb ((s.drop i).all smallc), []) := by
  refine upto (P := fun i => L82_0 (sv s) (vi i) = some (vb ((s.drop i).all smallc), [])) ?_ ?_
  · rw [l82_0, List.drop_length]
    simp -implicitDefEqProofs only [evs, Nat.reduceAdd, reduceIte]
  · intro i hi ih
    have hlt : (i : Int) < ((s.length : Nat) : Int) := by omega
    have h5 := add_one hi hs
    have hx := pIndexS_at hi
    have e1 := l2Small_eq s[i]
    rw [l82_0, drop_cons hi]
    generalize s[i] = ch at *
    rw [List.all_cons]
    cases h8 : smallc ch <;> rw [h8] at e1 <;> simp -implicitDefEqProofs only [evs, Nat.reduceAdd, reduceIte, hlt, hx, e1, h5, ih, h8, Bool.true_and, Bool.false_and]

theorem l2Var_eq (s : List UInt8) (hs : s.length ≤ 9223372036854775807) : G 82 [sv s] = some (vb (varN s), []) := by
  rw [g82, pLenS_sv, Option.bind_some]
  cases s with
  | nil =>
    have e := l1In_eq ((0 : Nat) : Int) 1 4
    simp -implicitDefEqProofs only [evs, Nat.reduceAdd, reduceIte, e]
    rfl
  | cons c r =>
    have e := l1In_eq (((c :: r).length : Nat) : Int) 1 4
    have e' : inB 1 4 (((c :: r).length : Nat) : Int) = decide (r.length ≤ 3) := inB_len r 3 (by decide)
    rw [e'] at e
    have key := l2Var_loop (c :: r) hs 1 (by simp)
    simp only [List.drop_succ_cons, List.drop_zero] at key
    have key : L82_0 (sv (c :: r)) (vi 1) = some (vb (r.all smallc), []) := key
    generalize ((((c :: r).length : Nat)) : Int) = n at *
    by_cases h3 : r.length ≤ 3
    · rw [decide_eq_true h3] at e
      by_cases ha : (c.toNat : Int) < 65
      · have : ¬ (65 ≤ (c.toNat : Int)) := by omega
        simp -implicitDefEqProofs only [evs, Nat.reduceAdd, reduceIte, e, pIndexS_0, ha, varN, upc, inB, this, Bool.false_and]
      · have h65 : 65 ≤ (c.toNat : Int) := by omega
        by_cases hb : 90 < (c.toNat : Int)
        · have : ¬ ((c.toNat : Int) ≤ 90) := by omega
          simp -implicitDefEqProofs only [evs, Nat.reduceAdd, reduceIte, e, pIndexS_0, ha, hb, varN, upc, inB, this, Bool.false_and, Bool.and_false]
        · have : (c.toNat : Int) ≤ 90 := by omega
          simp -implicitDefEqProofs only [evs, Nat.reduceAdd, reduceIte, e, pIndexS_0, ha, hb, varN, upc, inB, this, h65, key, h3, Bool.true_and, Bool.and_true]
    · rw [decide_eq_false h3] at e
      simp -implicitDefEqProofs only [evs, Nat.reduceAdd, reduceIte, e, varN, h3, Bool.and_false]

/-! ### Lists of strings -/
def fidx (s : List UInt8) : List (List UInt8) → Option Nat
  | [] => none
  | x :: l => if s = x then some 0 else (fidx s l).map (· + 1)
def fidxI (i : Nat) : Option Nat → Int
  | none => -1
  | some k => ((i + k : Nat) : Int)
theorem fidx_isSome (s : List UInt8) : ∀ l, (fidx s l).isSome = l.contains s
  | [] => rfl
  | x :: l => by
    simp only [fidx, List.contains_cons]
    by_cases h : s = x
    · simp [h]
    · have := fidx_isSome s l
      simp [h, this]
theorem fidx_lt {s : List UInt8} : ∀ {l : List (List UInt8)} {k : Nat}, fidx s l = some k → k < l.length ∧ l[k]? = some s
  | [], _, h => by cases h
  | x :: l, k, h => by
    simp only [fidx] at h
    split at h
    · rename_i e; cases h; exact ⟨by simp, by simp [e]⟩
    · obtain ⟨j, h1, rfl⟩ := Option.map_eq_some_iff.1 h
      have := fidx_lt h1
      exact ⟨by simp; exact this.1, by simpa using this.2⟩
theorem fidxI_neg (s : List UInt8) (l : List (List UInt8)) : decide (fidxI 0 (fidx s l) < 0) = !l.contains s := by
  rw [← fidx_isSome]
  cases fidx s l <;> simp [fidxI]
theorem fidxI_nonneg (s : List UInt8) (l : List (List UInt8)) : decide (0 ≤ fidxI 0 (fidx s l)) = l.contains s := by
  rw [← fidx_isSome]
  cases fidx s l <;> simp [fidxI]
theorem fidxI_step {s x : List UInt8} {l : List (List UInt8)} {i : Nat} (h : ¬ s = x) : fidxI (i + 1) (fidx s l) = fidxI i (fidx s (x :: l)) := by
  simp only [fidx, h, if_false]
  cases fidx s l <;> simp [fidxI]; omega

theorem index_strs (l : List (List UInt8)) (s : List UInt8) (hl : l.length ≤ 9223372036854775807) : G 122 [strs l, sv s] = some (vi (fidxI 0 (fidx s l)), []) := by
  have key := upto (P := fun i => L122_0 (strs l) (sv s) (vi (l.length : Nat)) (vi i) = some (vi (fidxI i (fidx s (l.drop i))), [])) (n := l.length) ?_ ?_ 0 (Nat.zero_le _)
  · simp only [Int.natCast_zero, List.drop_zero] at key
    rw [g122]
    simp -implicitDefEqProofs only [evs, Nat.reduceAdd, reduceIte, key]
  · rw [l122_0, List.drop_length]
    simp -implicitDefEqProofs only [evs, Nat.reduceAdd, reduceIte, fidx, fidxI]
  · intro i hi ih
    have hlt : (i : Int) < ((l.length : Nat) : Int) := by omega
    have h5 := add_one hi hl
    rw [l122_0, drop_cons hi]
    by_cases h : s = l[i]
    · simp -implicitDefEqProofs only [evs, Nat.reduceAdd, reduceIte, hlt, pIndexAddr_map hi, h, fidx, fidxI, Nat.add_zero]
    · simp -implicitDefEqProofs only [evs, Nat.reduceAdd, reduceIte, hlt, pIndexAddr_map hi, h, h5, ih, fidxI_step h]

theorem contains_strs (l : List (List UInt8)) (s : List UInt8) (hl : l.length ≤ 9223372036854775807) : G 87 [strs l, sv s] = some (vb (l.contains s), []) := by
  have e := index_strs l s hl
  rw [g87]
  simp -implicitDefEqProofs only [evs, Nat.reduceAdd, reduceIte, e, fidxI_nonneg]

theorem rank_eq (o : Ord') (s : List UInt8) (hl : o.syms.length ≤ 9223372036854775807) : G 116 [od o, sv s] = some (vi (fidxI 0 (fidx s o.syms)), []) := by
  have key := upto (P := fun i => L116_0 (sv s) (vi i) (strs o.syms) (ints o.ws) (vi o.var) = some (vi (fidxI i (fidx s (o.syms.drop i))), [])) (n := o.syms.length) ?_ ?_ 0 (Nat.zero_le _)
  · simp only [Int.natCast_zero, List.drop_zero] at key
    rw [g116]
    simp -implicitDefEqProofs only [evs, Nat.reduceAdd, reduceIte, key]
  · rw [l116_0, List.drop_length]
    simp -implicitDefEqProofs only [evs, Nat.reduceAdd, reduceIte, fidx, fidxI]
  · intro i hi ih
    have hlt : (i : Int) < ((o.syms.length : Nat) : Int) := by omega
    have h5 := add_one hi hl
    rw [l116_0, drop_cons hi]
    by_cases h : s = o.syms[i]
    · simp -implicitDefEqProofs only [evs, Nat.reduceAdd, reduceIte, hlt, pIndexAddr_map hi, h, fidx, fidxI, Nat.add_zero]
    · have h' : ¬ o.syms[i] = s := fun e => h e.symm
      simp -implicitDefEqProofs only [evs, Nat.reduceAdd, reduceIte, hlt, pIndexAddr_map hi, h', h5, ih, fidxI_step h]

theorem l2In_eq (l : List (List UInt8)) (s : List UInt8) (hl : l.length ≤ 9223372036854775807) : G 78 [strs l, sv s] = some (vb (l.contains s), []) := by
  have key := upto (P := fun i => L78_0 (strs l) (sv s) (vi i) = some (vb ((l.drop i).contains s), [])) (n := l.length) ?_ ?_ 0 (Nat.zero_le _)
  · simp only [Int.natCast_zero, List.drop_zero] at key
    rw [g78]
    exact key
  · rw [l78_0, List.drop_length]
    simp -implicitDefEqProofs only [evs, Nat.reduceAdd, reduceIte, List.contains_nil]
  · intro i hi ih
    have hlt : (i : Int) < ((l.length : Nat) : Int) := by omega
    have h5 := add_one hi hl
    rw [l78_0, drop_cons hi, List.contains_cons]
    by_cases h : l[i] = s
    · have : (s == l[i]) = true := by simp [h]
      simp -implicitDefEqProofs only [evs, Nat.reduceAdd, reduceIte, hlt, pIndexAddr_map hi, h, this, Bool.true_or]
      simp
    · have : (s == l[i]) = false := by simp; exact fun e => h e.symm
      simp -implicitDefEqProofs only [evs, Nat.reduceAdd, reduceIte, hlt, pIndexAddr_map hi, h, this, h5, ih, Bool.false_or]

/-! ### A symbol's name -/
def resv : List (List UInt8) := [[116, 114, 117, 101], [102, 97, 108, 115, 101], [116, 114, 117, 116, 104], [98, 111, 116, 104], [101, 105, 116, 104, 101, 114], [105, 102], [97, 108, 108], [115, 111, 109, 101]]
def symc (c : UInt8) : Bool := smallc c || decide ((c.toNat : Int) = 95)
def symN : List UInt8 → Bool
  | [] => false
  | c :: r => lowc c && (r.all symc && (decide (r.length ≤ 5) && !resv.contains (c :: r)))

theorem beq_dec (a b : List UInt8) : (a == b) = decide (a = b) := by by_cases h : a = b <;> simp [h]

theorem isSymbol_loop (s : List UInt8) (hs : s.length ≤ 9223372036854775807) : ∀ i, i ≤ s.length → 1 ≤ i → L86_0 (sv s) (vi (s.length : Nat)) (vi i) = some (vb ((s.drop i).all symc && (inB 1 6 (s.length : Nat) && !resv.contains s)), []) := by
  refine upto (P := fun i => 1 ≤ i → L86_0 (sv s) (vi (s.length : Nat)) (vi i) = some (vb ((s.drop i).all symc && (inB 1 6 (s.length : Nat) && !resv.contains s)), [])) ?_ ?_
  · intro _
    rw [l86_0, List.drop_length]
    have e := within_eq (s.length : Nat) 1 6
    have e2 := contains_strs resv s (by decide)
    have e3 : G 121 [] = some (strs resv, []) := g121
    cases h : inB 1 6 (s.length : Nat) <;> rw [h] at e <;> simp -implicitDefEqProofs only [evs, Nat.reduceAdd, reduceIte, e, e2, e3, h, Bool.true_and, Bool.false_and, List.all_nil]
  · intro i hi ih h1
    have ih := ih (by omega)
    have hn : ¬ ((i : Int) = 0) := by omega
    have hlt : (i : Int) < ((s.length : Nat) : Int) := by omega
    have h5 := add_one hi hs
    have hx := pIndexS_at hi
    have e1 := isLower_eq s[i]
    have e2 := isDigit_eq s[i]
    rw [l86_0, drop_cons hi]
    generalize s[i] = ch at *
    rw [List.all_cons]
    cases h7 : decide ((ch.toNat : Int) = 95) <;> cases h8 : lowc ch <;> cases h9 : digc ch <;> rw [h8] at e1 <;> rw [h9] at e2 <;>
      simp -implicitDefEqProofs only [evs, Nat.reduceAdd, reduceIte, hn, hlt, hx, e1, e2, h5, ih, symc, smallc, h7, h8, h9, Bool.true_and, Bool.false_and, Bool.or_true, Bool.or_false, Bool.true_or, Bool.false_or]

theorem isSymbol_eq (s : List UInt8) (hs : s.length ≤ 9223372036854775807) : G 86 [sv s] = some (vb (symN s), []) := by
  rw [g86, pLenS_sv, Option.bind_some]
  cases s with
  | nil =>
    rw [l86_0]
    have e : G 85 [vi ((0 : Nat) : Int), vi 1, vi 6] = some (vb false, []) := within_eq ((0 : Nat) : Int) 1 6
    simp -implicitDefEqProofs only [evs, Nat.reduceAdd, reduceIte, e]
    rfl
  | cons c r =>
    have key := isSymbol_loop (c :: r) hs 1 (by simp) (Nat.le_refl _)
    simp only [List.drop_succ_cons, List.drop_zero] at key
    have e' : inB 1 6 (((c :: r).length : Nat) : Int) = decide (r.length ≤ 5) := inB_len r 5 (by decide)
    rw [e'] at key
    rw [l86_0]
    have h5 : pBin .add false (vi 0) (vi 1) = some (vi ((1 : Nat) : Int)) := by rw [pBin_add, ck_le (by decide) (by decide)]; rfl
    have h6 : (0 : Int) < (((c :: r).length : Nat) : Int) := Int.natCast_pos.2 (Nat.succ_pos _)
    have e1 := isLower_eq c
    generalize ((((c :: r).length : Nat)) : Int) = n at *
    cases hu : lowc c <;> rw [hu] at e1 <;> simp -implicitDefEqProofs only [evs, Nat.reduceAdd, reduceIte, h6, pIndexS_0, e1, h5, key, symN, hu, Bool.true_and, Bool.false_and]

theorem l2Symbol_loop (s : List UInt8) (hs : s.length ≤ 9223372036854775807) : ∀ i, i ≤ s.length → L77_0 (sv s) (vi i) = some (vb ((s.drop i).all symc), []) := by
  refine upto (P := fun i => L77_0 (sv s) (vi i) = some (vb ((s.drop i).all symc), [])) ?_ ?_
  · rw [l77_0, List.drop_length]
    simp -implicitDefEqProofs only [evs, Nat.reduceAdd, reduceIte]
  · intro i hi ih
    have hlt : (i : Int) < ((s.length : Nat) : Int) := by omega
    have h5 := add_one hi hs
    have hx := pIndexS_at hi
    have e1 := l2Small_eq s[i]
    rw [l77_0, drop_cons hi]
    generalize s[i] = ch at *
    rw [List.all_cons]
    cases h7 : decide ((ch.toNat : Int) = 95) <;> cases h8 : smallc ch <;> rw [h8] at e1 <;> simp -implicitDefEqProofs only [evs, Nat.reduceAdd, reduceIte, hlt, hx, e1, h5, ih, symc, h7, h8, Bool.true_and, Bool.false_and, Bool.or_true, Bool.or_false, Bool.true_or, Bool.false_or]

theorem l2Symbol_eq (s : List UInt8) (hs : s.length ≤ 9223372036854775807) : G 77 [sv s] = some (vb (symN s), []) := by
  rw [g77, pLenS_sv, Option.bind_some]
  cases s with
  | nil =>
    have e : G 76 [vi ((0 : Nat) : Int), vi 1, vi 6] = some (vb false, []) := l1In_eq ((0 : Nat) : Int) 1 6
    simp -implicitDefEqProofs only [evs, Nat.reduceAdd, reduceIte, e]
    rfl
  | cons c r =>
    have e := l1In_eq (((c :: r).length : Nat) : Int) 1 6
    have e' : inB 1 6 (((c :: r).length : Nat) : Int) = decide (r.length ≤ 5) := inB_len r 5 (by decide)
    rw [e'] at e
    have key := l2Symbol_loop (c :: r) hs 1 (by simp)
    simp only [List.drop_succ_cons, List.drop_zero] at key
    have key : L77_0 (sv (c :: r)) (vi 1) = some (vb (r.all symc), []) := key
    generalize ((((c :: r).length : Nat)) : Int) = n at *
    have hres : resv.contains (c :: r) = (decide (c :: r = [116, 114, 117, 101]) || (decide (c :: r = [102, 97, 108, 115, 101]) || (decide (c :: r = [116, 114, 117, 116, 104]) || (decide (c :: r = [98, 111, 116, 104]) || (decide (c :: r = [101, 105, 116, 104, 101, 114]) || (decide (c :: r = [105, 102]) || (decide (c :: r = [97, 108, 108]) || decide (c :: r = [115, 111, 109, 101])))))))) := by
      simp only [resv, List.contains_cons, List.contains_nil, Bool.or_false, beq_dec]
    by_cases h3 : r.length ≤ 5
    · rw [decide_eq_true h3] at e
      by_cases ha : (c.toNat : Int) < 97
      · have : ¬ (97 ≤ (c.toNat : Int)) := by omega
        simp -implicitDefEqProofs only [evs, Nat.reduceAdd, reduceIte, e, pIndexS_0, ha, symN, lowc, inB, this, Bool.false_and]
      · have h65 : 97 ≤ (c.toNat : Int) := by omega
        by_cases hb : 122 < (c.toNat : Int)
        · have : ¬ ((c.toNat : Int) ≤ 122) := by omega
          simp -implicitDefEqProofs only [evs, Nat.reduceAdd, reduceIte, e, pIndexS_0, ha, hb, symN, lowc, inB, this, Bool.false_and, Bool.and_false]
        · have h122 : (c.toNat : Int) ≤ 122 := by omega
          have e0 : symN (c :: r) = (r.all symc && !resv.contains (c :: r)) := by
            simp [symN, lowc, inB, h65, h122, h3]
          rw [e0, hres]
          have hx0 := pIndexS_0 (c := c) (l := r)
          clear hres e0
          generalize c :: r = s at *
          cases q0 : decide (s = [116, 114, 117, 101])
          rotate_left
          · simp -implicitDefEqProofs only [evs, Nat.reduceAdd, reduceIte, e, hx0, ha, hb, q0, Bool.true_or, Bool.false_or, Bool.and_false]
          cases q1 : decide (s = [102, 97, 108, 115, 101])
          rotate_left
          · simp -implicitDefEqProofs only [evs, Nat.reduceAdd, reduceIte, e, hx0, ha, hb, q0, q1, Bool.true_or, Bool.false_or, Bool.and_false]
          cases q2 : decide (s = [116, 114, 117, 116, 104])
          rotate_left
          · simp -implicitDefEqProofs only [evs, Nat.reduceAdd, reduceIte, e, hx0, ha, hb, q0, q1, q2, Bool.true_or, Bool.false_or, Bool.and_false]
          cases q3 : decide (s = [98, 111, 116, 104])
          rotate_left
          · simp -implicitDefEqProofs only [evs, Nat.reduceAdd, reduceIte, e, hx0, ha, hb, q0, q1, q2, q3, Bool.true_or, Bool.false_or, Bool.and_false]
          cases q4 : decide (s = [101, 105, 116, 104, 101, 114])
          rotate_left
          · simp -implicitDefEqProofs only [evs, Nat.reduceAdd, reduceIte, e, hx0, ha, hb, q0, q1, q2, q3, q4, Bool.true_or, Bool.false_or, Bool.and_false]
          cases q5 : decide (s = [105, 102])
          rotate_left
          · simp -implicitDefEqProofs only [evs, Nat.reduceAdd, reduceIte, e, hx0, ha, hb, q0, q1, q2, q3, q4, q5, Bool.true_or, Bool.false_or, Bool.and_false]
          cases q6 : decide (s = [97, 108, 108])
          rotate_left
          · simp -implicitDefEqProofs only [evs, Nat.reduceAdd, reduceIte, e, hx0, ha, hb, q0, q1, q2, q3, q4, q5, q6, Bool.true_or, Bool.false_or, Bool.and_false]
          cases q7 : decide (s = [115, 111, 109, 101])
          rotate_left
          · simp -implicitDefEqProofs only [evs, Nat.reduceAdd, reduceIte, e, hx0, ha, hb, q0, q1, q2, q3, q4, q5, q6, q7, Bool.true_or, Bool.false_or, Bool.and_false]
          simp -implicitDefEqProofs only [evs, Nat.reduceAdd, reduceIte, e, hx0, ha, hb, q0, q1, q2, q3, q4, q5, q6, q7, Bool.true_or, Bool.false_or, Bool.and_true, Bool.or_false, key]
    · rw [decide_eq_false h3] at e
      simp -implicitDefEqProofs only [evs, Nat.reduceAdd, reduceIte, e, symN, h3, Bool.false_and, Bool.and_false]
end Go.Proofs.YtnbjmmldjggkfaaGreat
/- TERMS: sizes, depths, names; what is valid. -/
namespace Go.Proofs.YtnbjmmldjggkfaaGreat
open Go Go.RowKit Go.Proofs.YtnbjmmldjggkfaaGreat.Abs

set_option linter.unusedSimpArgs false
set_option linter.unusedVariables false
set_option maxHeartbeats 1000000

mutual
def nodes : T → Nat
  | .mk _ us => 1 + nodesL us
def nodesL : List T → Nat
  | [] => 0
  | t :: ts => nodes t + nodesL ts
end
theorem nodes_eq (t : T) : nodes t = 1 + nodesL t.args := by cases t; rfl
mutual
def dep : T → Nat
  | .mk _ us => 1 + depL us
def depL : List T → Nat
  | [] => 0
  | t :: ts => max (dep t) (depL ts)
end
theorem dep_eq (t : T) : dep t = 1 + depL t.args := by cases t; rfl
mutual
def okT : T → Bool
  | .mk n us => if varN n then us.isEmpty else symN n && (decide (us.length ≤ 4) && okTL us)
def okTL : List T → Bool
  | [] => true
  | t :: ts => okT t && okTL ts
end
theorem okT_eq (t : T) : okT t = if varN t.name then t.args.isEmpty else symN t.name && (decide (t.args.length ≤ 4) && okTL t.args) := by cases t; rfl
theorem okTL_all : ∀ ts, okTL ts = ts.all okT
  | [] => rfl
  | t :: ts => by rw [okTL, okTL_all ts, List.all_cons]

theorem nodes_le : ∀ t : T, nodes t ≤ 1 + tsz t := by
  refine T.ind fun t ih => ?_
  have : ∀ ts : List T, (∀ u ∈ ts, nodes u ≤ 1 + tsz u) → nodesL ts ≤ ts.length + tszL ts := by
    intro ts
    induction ts with
    | nil => intro _; simp [nodesL]
    | cons u us ih =>
      intro h
      have h1 := h u (by simp)
      have h2 := ih fun v hv => h v (by simp [hv])
      simp only [nodesL, tszL, List.length_cons]
      omega
  have h := this t.args ih
  rw [nodes_eq, tsz_eq]
  omega
theorem nodes_pos (t : T) : 1 ≤ nodes t := by rw [nodes_eq]; omega
theorem nodesL_mem {ts : List T} {t : T} (h : t ∈ ts) : nodes t ≤ nodesL ts := by
  induction ts with
  | nil => cases h
  | cons u us ih =>
    simp only [nodesL]
    rcases List.mem_cons.1 h with rfl | h
    · omega
    · have := ih h; omega
theorem dep_le : ∀ t : T, dep t ≤ nodes t := by
  refine T.ind fun t ih => ?_
  have : ∀ ts : List T, (∀ u ∈ ts, dep u ≤ nodes u) → depL ts ≤ nodesL ts := by
    intro ts
    induction ts with
    | nil => intro _; simp [depL]
    | cons u us ih =>
      intro h
      have h1 := h u (by simp)
      have h2 := ih fun v hv => h v (by simp [hv])
      simp only [nodesL, depL]
      omega
  have h := this t.args ih
  rw [nodes_eq, dep_eq]
  omega

/-! ### Sizes -/
theorem size_loop (ts : List T) (hl : ts.length ≤ 9223372036854775807) (hn : nodesL ts ≤ 1048577) (ih : ∀ t ∈ ts, ∃ r : Nat, G 111 [tm t] = some (vi r, []) ∧ r ≤ nodes t ∧ (nodes t ≤ 30 → r = nodes t) ∧ (30 < nodes t → 30 < r)) :
    ∀ i, i ≤ ts.length → ∀ a : Nat, a + nodesL (ts.drop i) ≤ 1048578 → ∃ r : Nat, L111_0 (vi a) (tms ts) (vi (ts.length : Nat)) (vi i) = some (vi r, []) ∧ r ≤ a + nodesL (ts.drop i) ∧ (a + nodesL (ts.drop i) ≤ 30 → r = a + nodesL (ts.drop i)) ∧ (30 < a + nodesL (ts.drop i) → 30 < r) := by
  refine upto ?_ ?_
  · intro a ha
    rw [l111_0, List.drop_length]
    simp -implicitDefEqProofs only [evs, Nat.reduceAdd, reduceIte, nodesL, Nat.add_zero]
    exact ⟨a, rfl, Nat.le_refl _, fun _ => rfl, fun h => h⟩
  · intro i hi ih' a ha
    have hlt : (i : Int) < ((ts.length : Nat) : Int) := by omega
    have h5 := add_one hi hl
    rw [drop_cons hi] at ha ⊢
    simp only [nodesL] at ha ⊢
    obtain ⟨r1, e1, b1, b2, b3⟩ := ih ts[i] (List.getElem_mem _)
    by_cases hc : (30 : Int) < (a : Int)
    · refine ⟨a, ?_, by omega, by omega, by omega⟩
      rw [l111_0]
      simp -implicitDefEqProofs only [evs, Nat.reduceAdd, reduceIte, hlt, pIndexAddr_map hi, pLoadN_tcells, hc]
    · have hk : ck ((a : Int) + (r1 : Int)) = some (vi ((a + r1 : Nat) : Int)) := by rw [ck_le (by omega) (by omega)]; rfl
      obtain ⟨r2, e2, c1, c2, c3⟩ := ih' (a + r1) (by omega)
      refine ⟨r2, ?_, by omega, by omega, by omega⟩
      rw [l111_0]
      simp -implicitDefEqProofs only [evs, Nat.reduceAdd, reduceIte, hlt, pIndexAddr_map hi, pLoadN_tcells, hc, e1, hk, h5, e2]

theorem size_eq : ∀ t : T, twf t → tsz t ≤ 1048576 → ∃ r : Nat, G 111 [tm t] = some (vi r, []) ∧ r ≤ nodes t ∧ (nodes t ≤ 30 → r = nodes t) ∧ (30 < nodes t → 30 < r) := by
  refine T.ind fun t ih hw hs => ?_
  obtain ⟨w1, w2, w3⟩ := (twf_eq t).1 hw
  have w3 := (twfL_iff _).1 w3
  have hn := nodes_le t
  rw [nodes_eq] at hn
  rw [tsz_eq] at hs
  obtain ⟨r, h1, h2, h3, h4⟩ := size_loop t.args w2 (by rw [tsz_eq] at hn; omega) (fun u hu => ih u hu (w3 u hu) (by have := tsz_mem hu; omega)) 0 (Nat.zero_le _) 1 (by rw [tsz_eq] at hn; simp; omega)
  simp only [List.drop_zero, Int.natCast_zero, Int.natCast_one] at h1 h2 h3 h4
  refine ⟨r, ?_, by rw [nodes_eq]; exact h2, by rw [nodes_eq]; exact h3, by rw [nodes_eq]; exact h4⟩
  rw [g111]
  simp -implicitDefEqProofs only [evs, Nat.reduceAdd, reduceIte, h1]

theorem many_loop (n : List UInt8) (most : Int) (hm1 : -1048600 ≤ most) (hm : most ≤ 1048576) (ts : List T) (hl : ts.length ≤ 9223372036854775807) (ih : ∀ t ∈ ts, ∀ m : Int, -1048600 ≤ m → m ≤ 1048576 → ∃ r : Nat, G 130 [tm t, vi m] = some (vi r, []) ∧ 1 ≤ r ∧ r ≤ nodes t ∧ ((nodes t : Int) ≤ m → r = nodes t) ∧ (m < nodes t → m < r)) :
    ∀ i, i ≤ ts.length → ∀ a : Nat, 1 ≤ a → a + nodesL (ts.drop i) ≤ 1048578 → ∃ r : Nat, L130_0 (vi most) (vi a) (vi i) (sv n) (tms ts) = some (vi r, []) ∧ 1 ≤ r ∧ r ≤ a + nodesL (ts.drop i) ∧ (((a + nodesL (ts.drop i) : Nat) : Int) ≤ most → r = a + nodesL (ts.drop i)) ∧ (most < ((a + nodesL (ts.drop i) : Nat) : Int) → most < r) := by
  refine upto ?_ ?_
  · intro a h1 ha
    rw [l130_0, List.drop_length]
    simp -implicitDefEqProofs only [evs, Nat.reduceAdd, reduceIte, nodesL, Nat.add_zero]
    exact ⟨a, rfl, h1, Nat.le_refl _, fun _ => rfl, fun h => h⟩
  · intro i hi ih' a h1 ha
    have hlt : (i : Int) < ((ts.length : Nat) : Int) := by omega
    have h5 := add_one hi hl
    rw [drop_cons hi] at ha ⊢
    simp only [nodesL] at ha ⊢
    by_cases hc : (a : Int) ≤ most
    · obtain ⟨r1, e1, b0, b1, b2, b3⟩ := ih ts[i] (List.getElem_mem _) (most - a) (by omega) (by omega)
      have hk0 : ck (most - (a : Int)) = some (vi (most - a)) := ck_le (by omega) (by omega)
      have hk : ck ((a : Int) + (r1 : Int)) = some (vi ((a + r1 : Nat) : Int)) := by rw [ck_le (by omega) (by omega)]; rfl
      obtain ⟨r2, e2, c0, c1, c2, c3⟩ := ih' (a + r1) (by omega) (by omega)
      refine ⟨r2, ?_, by omega, by omega, by omega, by omega⟩
      rw [l130_0]
      simp -implicitDefEqProofs only [evs, Nat.reduceAdd, reduceIte, hlt, pIndexAddr_map hi, pLoadN_tcells, hc, hk0, e1, hk, h5, e2]
    · refine ⟨a, ?_, h1, by omega, by omega, by omega⟩
      rw [l130_0]
      simp -implicitDefEqProofs only [evs, Nat.reduceAdd, reduceIte, hlt, hc]

theorem many_eq : ∀ t : T, twf t → tsz t ≤ 1048576 → ∀ m : Int, -1048600 ≤ m → m ≤ 1048576 → ∃ r : Nat, G 130 [tm t, vi m] = some (vi r, []) ∧ 1 ≤ r ∧ r ≤ nodes t ∧ ((nodes t : Int) ≤ m → r = nodes t) ∧ (m < nodes t → m < r) := by
  refine T.ind fun t ih hw hs m hm1 hm => ?_
  obtain ⟨w1, w2, w3⟩ := (twf_eq t).1 hw
  have w3 := (twfL_iff _).1 w3
  have hn := nodes_le t
  rw [nodes_eq] at hn
  obtain ⟨r, h1, h0, h2, h3, h4⟩ := many_loop t.name m hm1 hm t.args w2 (fun u hu m h1 h2 => ih u hu (w3 u hu) (by have := tsz_mem hu; rw [tsz_eq] at hs; omega) m h1 h2) 0 (Nat.zero_le _) 1 (Nat.le_refl _) (by simp; omega)
  simp only [List.drop_zero, Int.natCast_zero, Int.natCast_one] at h1 h2 h3 h4
  refine ⟨r, ?_, h0, by rw [nodes_eq]; exact h2, by rw [nodes_eq]; exact h3, by rw [nodes_eq]; exact h4⟩
  rw [g130]
  simp -implicitDefEqProofs only [evs, Nat.reduceAdd, reduceIte, h1]

/-! ### Depths -/
theorem depth_loop (ts : List T) (hl : ts.length ≤ 9223372036854775807) (hn : nodesL ts ≤ 1048577) (ih : ∀ t ∈ ts, G 112 [tm t] = some (vi (dep t : Nat), [])) :
    ∀ i, i ≤ ts.length → ∀ a : Nat, a ≤ 1048577 → L112_0 (vi a) (tms ts) (vi (ts.length : Nat)) (vi i) = some (vi ((max a (depL (ts.drop i)) + 1 : Nat) : Int), []) := by
  refine upto ?_ ?_
  · intro a ha
    have hk : ck ((a : Int) + 1) = some (vi ((a + 1 : Nat) : Int)) := by rw [ck_le (by omega) (by omega)]; rfl
    rw [l112_0, List.drop_length]
    simp -implicitDefEqProofs only [evs, Nat.reduceAdd, reduceIte, depL, hk, Nat.max_zero]
  · intro i hi ih' a ha
    have hlt : (i : Int) < ((ts.length : Nat) : Int) := by omega
    have h5 := add_one hi hl
    have e1 := ih ts[i] (List.getElem_mem _)
    have hd : dep ts[i] ≤ 1048577 := Nat.le_trans (dep_le _) (Nat.le_trans (nodesL_mem (List.getElem_mem hi)) hn)
    have hmx : (if (a : Int) < ((dep ts[i] : Nat) : Int) then ((dep ts[i] : Nat) : Int) else (a : Int)) = ((max a (dep ts[i]) : Nat) : Int) := by split <;> omega
    have ih' := ih' (max a (dep ts[i])) (by omega)
    rw [l112_0, drop_cons hi]
    simp -implicitDefEqProofs only [evs, Nat.reduceAdd, reduceIte, hlt, pIndexAddr_map hi, pLoadN_tcells, e1, hmx, h5, ih', depL, Nat.max_assoc]

theorem depth_eq : ∀ t : T, twf t → tsz t ≤ 1048576 → G 112 [tm t] = some (vi (dep t : Nat), []) := by
  refine T.ind fun t ih hw hs => ?_
  obtain ⟨w1, w2, w3⟩ := (twf_eq t).1 hw
  have w3 := (twfL_iff _).1 w3
  have hn := nodes_le t
  rw [nodes_eq] at hn
  have h1 := depth_loop t.args w2 (by omega) (fun u hu => ih u hu (w3 u hu) (by have := tsz_mem hu; rw [tsz_eq] at hs; omega)) 0 (Nat.zero_le _) 0 (by omega)
  simp only [List.drop_zero, Int.natCast_zero, Nat.zero_max] at h1
  rw [g112, dep_eq, Nat.add_comm]
  simp -implicitDefEqProofs only [evs, Nat.reduceAdd, reduceIte, h1]

theorem most_eq (a b : Nat) : G 150 [vi a, vi b] = some (vi ((max a b : Nat) : Int), []) := by
  rw [g150]
  by_cases h : (b : Int) < (a : Int)
  · simp -implicitDefEqProofs only [evs, Nat.reduceAdd, reduceIte, h]; rw [Nat.max_eq_left (by omega)]
  · simp -implicitDefEqProofs only [evs, Nat.reduceAdd, reduceIte, h]; rw [Nat.max_eq_right (by omega)]

theorem l2Depth_loop (n : List UInt8) (ts : List T) (hl : ts.length ≤ 9223372036854775807) (hn : nodesL ts ≤ 1048577) (ih : ∀ t ∈ ts, G 131 [tm t] = some (vi (dep t : Nat), [])) :
    ∀ i, i ≤ ts.length → ∀ a : Nat, a ≤ 1048577 → L131_0 (vi a) (vi i) (sv n) (tms ts) = some (vi ((max a (depL (ts.drop i)) + 1 : Nat) : Int), []) := by
  refine upto ?_ ?_
  · intro a ha
    have hk : ck ((a : Int) + 1) = some (vi ((a + 1 : Nat) : Int)) := by rw [ck_le (by omega) (by omega)]; rfl
    rw [l131_0, List.drop_length]
    simp -implicitDefEqProofs only [evs, Nat.reduceAdd, reduceIte, depL, hk, Nat.max_zero]
  · intro i hi ih' a ha
    have hlt : (i : Int) < ((ts.length : Nat) : Int) := by omega
    have h5 := add_one hi hl
    have e1 := ih ts[i] (List.getElem_mem _)
    have e2 := most_eq a (dep ts[i])
    have hd : dep ts[i] ≤ 1048577 := Nat.le_trans (dep_le _) (Nat.le_trans (nodesL_mem (List.getElem_mem hi)) hn)
    have ih' := ih' (max a (dep ts[i])) (by omega)
    rw [l131_0, drop_cons hi]
    simp -implicitDefEqProofs only [evs, Nat.reduceAdd, reduceIte, hlt, pIndexAddr_map hi, pLoadN_tcells, e1, e2, h5, ih', depL, Nat.max_assoc]

theorem l2Depth_eq : ∀ t : T, twf t → tsz t ≤ 1048576 → G 131 [tm t] = some (vi (dep t : Nat), []) := by
  refine T.ind fun t ih hw hs => ?_
  obtain ⟨w1, w2, w3⟩ := (twf_eq t).1 hw
  have w3 := (twfL_iff _).1 w3
  have hn := nodes_le t
  rw [nodes_eq] at hn
  have h1 := l2Depth_loop t.name t.args w2 (by omega) (fun u hu => ih u hu (w3 u hu) (by have := tsz_mem hu; rw [tsz_eq] at hs; omega)) 0 (Nat.zero_le _) 0 (by omega)
  simp only [List.drop_zero, Int.natCast_zero, Nat.zero_max] at h1
  rw [g131, dep_eq, Nat.add_comm]
  simp -implicitDefEqProofs only [evs, Nat.reduceAdd, reduceIte, h1]

/-! ### Valid terms -/
def smallT (t : T) : Bool := decide (nodes t ≤ 30) && decide (dep t ≤ 8)
def validT (t : T) : Bool := smallT t && okT t

theorem isSmall_eq (t : T) (hw : twf t) (hs : tsz t ≤ 1048576) : G 72 [tm t] = some (vb (smallT t), []) := by
  obtain ⟨r, h1, h2, h3, h4⟩ := size_eq t hw hs
  have hd := depth_eq t hw hs
  rw [g72]
  by_cases h : nodes t ≤ 30
  · have : (r : Int) ≤ 30 := by have := h3 h; omega
    have e : decide (((dep t : Nat) : Int) ≤ 8) = decide (dep t ≤ 8) := by congr 1; exact propext (by omega)
    simp -implicitDefEqProofs only [evs, Nat.reduceAdd, reduceIte, h1, hd, this, smallT, h, e, Bool.true_and]
  · have : ¬ (r : Int) ≤ 30 := by have := h4 (by omega); omega
    simp -implicitDefEqProofs only [evs, Nat.reduceAdd, reduceIte, h1, this, smallT, h, Bool.false_and]

theorem l2Fits_eq (t : T) (hw : twf t) (hs : tsz t ≤ 1048576) : G 94 [tm t] = some (vb (smallT t), []) := by
  obtain ⟨r, h1, h0, h2, h3, h4⟩ := many_eq t hw hs 30 (by decide) (by decide)
  have hd := l2Depth_eq t hw hs
  rw [g94]
  by_cases h : nodes t ≤ 30
  · have : (r : Int) ≤ 30 := by have := h3 (by omega); omega
    have e : decide (((dep t : Nat) : Int) ≤ 8) = decide (dep t ≤ 8) := by congr 1; exact propext (by omega)
    simp -implicitDefEqProofs only [evs, Nat.reduceAdd, reduceIte, h1, hd, this, smallT, h, e, Bool.true_and]
  · have : ¬ (r : Int) ≤ 30 := by have := h4 (by omega); omega
    simp -implicitDefEqProofs only [evs, Nat.reduceAdd, reduceIte, h1, this, smallT, h, Bool.false_and]

/-! ### Tests of terms in lists -/
theorem indexFunc_terms {f : FuncId} {caps : List A} (hsig : K.pureF f = true) (p : T → Bool) (ts : List T) (hl : ts.length ≤ 9223372036854775807) (h : ∀ t ∈ ts, G f (tm t :: caps) = some (vb (p t), [])) :
    ∃ r : Int, G 138 [tms ts, .fn f caps] = some (vi r, []) ∧ decide (0 ≤ r) = ts.any p := by
  have key := upto (P := fun i => ∃ r : Int, L138_0 (tms ts) (.fn f caps) (vi (ts.length : Nat)) (vi i) = some (vi r, []) ∧ decide (0 ≤ r) = (ts.drop i).any p) (n := ts.length) ?_ ?_ 0 (Nat.zero_le _)
  · obtain ⟨r, h1, h2⟩ := key
    simp only [Int.natCast_zero, List.drop_zero] at h1 h2
    refine ⟨r, ?_, h2⟩
    rw [g138]
    simp -implicitDefEqProofs only [evs, Nat.reduceAdd, reduceIte, h1]
  · refine ⟨-1, ?_, by simp⟩
    rw [l138_0]
    simp -implicitDefEqProofs only [evs, Nat.reduceAdd, reduceIte]
  · intro i hi ih
    obtain ⟨r, h1, h2⟩ := ih
    have hlt : (i : Int) < ((ts.length : Nat) : Int) := by omega
    have h5 := add_one hi hl
    have e1 := h ts[i] (List.getElem_mem _)
    rw [l138_0, drop_cons hi, List.any_cons]
    cases hp : p ts[i] <;> rw [hp] at e1
    · refine ⟨r, ?_, by rw [h2, Bool.false_or]⟩
      simp -implicitDefEqProofs only [evs, Nat.reduceAdd, reduceIte, hlt, pIndexAddr_map hi, pLoadN_tcells, callc_fn hsig, List.cons_append, List.nil_append, e1, h5, h1]
    · refine ⟨i, ?_, by simp⟩
      simp -implicitDefEqProofs only [evs, Nat.reduceAdd, reduceIte, hlt, pIndexAddr_map hi, pLoadN_tcells, callc_fn hsig, List.cons_append, List.nil_append, e1]

theorem contains_terms {f : FuncId} {caps : List A} (hsig : K.pureF f = true) (p : T → Bool) (ts : List T) (hl : ts.length ≤ 9223372036854775807) (h : ∀ t ∈ ts, G f (tm t :: caps) = some (vb (p t), [])) :
    G 99 [tms ts, .fn f caps] = some (vb (ts.any p), []) := by
  obtain ⟨r, h1, h2⟩ := indexFunc_terms hsig p ts hl h
  rw [g99]
  simp -implicitDefEqProofs only [evs, Nat.reduceAdd, reduceIte, h1, h2]

theorem any_not_all (p : T → Bool) (ts : List T) : (ts.any fun t => !p t) = !ts.all p := by
  induction ts with
  | nil => rfl
  | cons t ts ih => rw [List.any_cons, List.all_cons, ih]; cases p t <;> rfl

theorem hasNames_eq : ∀ t : T, twf t → G 73 [tm t] = some (vb (okT t), []) := by
  refine T.ind fun t ih hw => ?_
  obtain ⟨w1, w2, w3⟩ := (twf_eq t).1 hw
  have w3 := (twfL_iff _).1 w3
  have e1 := isVariable_eq t.name w1
  have e2 := isSymbol_eq t.name w1
  have e3 := contains_terms (f := 114) (caps := []) rfl (fun u => !okT u) t.args w2 (fun u hu => by
    have := ih u hu (w3 u hu)
    rw [g114]
    simp -implicitDefEqProofs only [evs, Nat.reduceAdd, reduceIte, this])
  rw [any_not_all, ← okTL_all] at e3
  rw [g73, okT_eq]
  have e4 : decide (((t.args.length : Nat) : Int) = 0) = t.args.isEmpty := by cases t.args <;> simp; omega
  have e5 : decide (((t.args.length : Nat) : Int) ≤ 4) = decide (t.args.length ≤ 4) := by congr 1; exact propext (by omega)
  cases hv : varN t.name <;> rw [hv] at e1
  · cases hy : symN t.name <;> rw [hy] at e2
    · simp -implicitDefEqProofs only [evs, Nat.reduceAdd, reduceIte, e1, e2, Bool.false_and]
    · cases ha : decide (t.args.length ≤ 4) <;> rw [ha] at e5
      · simp -implicitDefEqProofs only [evs, Nat.reduceAdd, reduceIte, e1, e2, e5, Bool.false_and, Bool.true_and]
      · simp -implicitDefEqProofs only [evs, Nat.reduceAdd, reduceIte, e1, e2, e5, e3, Bool.true_and, Bool.not_not]
  · simp -implicitDefEqProofs only [evs, Nat.reduceAdd, reduceIte, e1, e4]

theorem l2Nodes_eq : ∀ t : T, twf t → G 95 [tm t] = some (vb (okT t), []) := by
  refine T.ind fun t ih hw => ?_
  obtain ⟨w1, w2, w3⟩ := (twf_eq t).1 hw
  have w3 := (twfL_iff _).1 w3
  have e1 := l2Var_eq t.name w1
  have e2 := l2Symbol_eq t.name w1
  have key := upto (P := fun i => L95_0 (vi i) (sv t.name) (tms t.args) = some (vb (okTL (t.args.drop i)), [])) (n := t.args.length) ?_ ?_ 0 (Nat.zero_le _)
  · simp only [Int.natCast_zero, List.drop_zero] at key
    rw [g95, okT_eq]
    have e4 : decide (((t.args.length : Nat) : Int) = 0) = t.args.isEmpty := by cases t.args <;> simp; omega
    cases hv : varN t.name <;> rw [hv] at e1
    · cases hy : symN t.name <;> rw [hy] at e2
      · simp -implicitDefEqProofs only [evs, Nat.reduceAdd, reduceIte, e1, e2, Bool.false_and]
      · by_cases ha : 4 < ((t.args.length : Nat) : Int)
        · have : ¬ t.args.length ≤ 4 := by omega
          simp -implicitDefEqProofs only [evs, Nat.reduceAdd, reduceIte, e1, e2, ha, this, Bool.false_and, Bool.and_false]
        · have : t.args.length ≤ 4 := by omega
          simp -implicitDefEqProofs only [evs, Nat.reduceAdd, reduceIte, e1, e2, ha, this, key, Bool.true_and]
    · simp -implicitDefEqProofs only [evs, Nat.reduceAdd, reduceIte, e1, e4]
  · rw [l95_0, List.drop_length]
    simp -implicitDefEqProofs only [evs, Nat.reduceAdd, reduceIte, okTL]
  · intro i hi ih'
    have hlt : (i : Int) < ((t.args.length : Nat) : Int) := by omega
    have h5 := add_one hi w2
    have e3 := ih t.args[i] (List.getElem_mem _) (w3 _ (List.getElem_mem _))
    rw [l95_0, drop_cons hi, okTL]
    cases hp : okT t.args[i] <;> rw [hp] at e3
    · simp -implicitDefEqProofs only [evs, Nat.reduceAdd, reduceIte, hlt, pIndexAddr_map hi, pLoadN_tcells, e3, Bool.false_and]
    · simp -implicitDefEqProofs only [evs, Nat.reduceAdd, reduceIte, hlt, pIndexAddr_map hi, pLoadN_tcells, e3, h5, ih', Bool.true_and]

theorem isValidTerm_eq (t : T) (hw : twf t) (hs : tsz t ≤ 1048576) : G 32 [tm t] = some (vb (validT t), []) := by
  have e1 := isSmall_eq t hw hs
  have e2 := hasNames_eq t hw
  rw [g32, validT]
  cases h : smallT t <;> rw [h] at e1 <;> simp -implicitDefEqProofs only [evs, Nat.reduceAdd, reduceIte, e1, e2, Bool.true_and, Bool.false_and]
theorem l2Good_eq (t : T) (hw : twf t) (hs : tsz t ≤ 1048576) : G 60 [tm t] = some (vb (validT t), []) := by
  have e1 := l2Fits_eq t hw hs
  have e2 := l2Nodes_eq t hw
  rw [g60, validT]
  cases h : smallT t <;> rw [h] at e1 <;> simp -implicitDefEqProofs only [evs, Nat.reduceAdd, reduceIte, e1, e2, Bool.true_and, Bool.false_and]
end Go.Proofs.YtnbjmmldjggkfaaGreat
/- ORDERINGS: valid, covering; weights. -/
namespace Go.Proofs.YtnbjmmldjggkfaaGreat
open Go Go.RowKit Go.Proofs.YtnbjmmldjggkfaaGreat.Abs

set_option linter.unusedSimpArgs false
set_option linter.unusedVariables false
set_option maxHeartbeats 1000000

theorem pIndexAddr_ci {xs : List Int} {i : Nat} (h : i < xs.length) : pIndexAddr 1 (ints xs) (vi i) = some (.elt (ci xs[i]) 0) := pIndexAddr_map h

/-- What holds of symbol number i. -/
def chkO (o : Ord') (i : Nat) : Bool := symN (o.syms.getD i []) && (!(o.syms.take i).contains (o.syms.getD i []) && inB o.var 100 (o.ws.getD i 0))
def validO (o : Ord') : Bool := inB 1 12 (o.syms.length : Nat) && (decide (o.ws.length = o.syms.length) && (inB 1 100 o.var && (List.range o.syms.length).all (chkO o)))

theorem range_drop {n i : Nat} (h : i < n) : (List.range n).drop i = i :: (List.range n).drop (i + 1) := by
  have h' : i < (List.range n).length := by simpa using h
  rw [List.drop_eq_getElem_cons h', List.getElem_range]

theorem l6Good_loop (o : Ord') (hw : owf o) (hl : o.ws.length = o.syms.length) : ∀ i, i ≤ o.syms.length → L37_0 (vi i) (strs o.syms) (ints o.ws) (vi o.var) = some (vb (((List.range o.syms.length).drop i).all (chkO o)), []) := by
  refine upto ?_ ?_
  · rw [l37_0, List.drop_of_length_le (by simp)]
    simp -implicitDefEqProofs only [evs, Nat.reduceAdd, reduceIte]
  · intro i hi ih
    have hlt : (i : Int) < ((o.syms.length : Nat) : Int) := by omega
    have hi2 : i < o.ws.length := by omega
    have h5 := add_one hi hw.1.2
    have hs := hw.1.1 o.syms[i] (List.getElem_mem _)
    have e1 := l2Symbol_eq o.syms[i] hs
    have hsl : pSlice 1 (strs o.syms) none (some (vi i)) = some (strs (o.syms.take i)) := by rw [pSlice_take (by simp; omega), ← List.map_take]
    have e2 := l2In_eq (o.syms.take i) o.syms[i] (by rw [List.length_take]; exact Nat.le_trans (Nat.min_le_right _ _) hw.1.2)
    have e3 := l1In_eq o.ws[i] o.var 100
    have hc : chkO o i = (symN o.syms[i] && (!(o.syms.take i).contains o.syms[i] && inB o.var 100 o.ws[i])) := by simp [chkO, List.getD_eq_getElem?_getD, hi, hi2]
    rw [l37_0, range_drop hi, List.all_cons, hc]
    cases h1 : symN o.syms[i] <;> rw [h1] at e1
    · simp -implicitDefEqProofs only [evs, Nat.reduceAdd, reduceIte, hlt, pIndexAddr_map hi, e1, Bool.false_and]
    · cases h2 : (o.syms.take i).contains o.syms[i] <;> rw [h2] at e2
      · cases h3 : inB o.var 100 o.ws[i] <;> rw [h3] at e3
        · simp -implicitDefEqProofs only [evs, Nat.reduceAdd, reduceIte, hlt, pIndexAddr_map hi, pIndexAddr_ci hi2, e1, hsl, e2, e3, Bool.false_and, Bool.true_and]
        · simp -implicitDefEqProofs only [evs, Nat.reduceAdd, reduceIte, hlt, pIndexAddr_map hi, pIndexAddr_ci hi2, e1, hsl, e2, e3, h5, ih, Bool.true_and]
      · simp -implicitDefEqProofs only [evs, Nat.reduceAdd, reduceIte, hlt, pIndexAddr_map hi, e1, hsl, e2, Bool.false_and, Bool.true_and]

theorem l6Good_eq (o : Ord') (hw : owf o) : G 37 [od o] = some (vb (validO o), []) := by
  have e1 := l1In_eq (o.syms.length : Nat) 1 12
  have e2 := l1In_eq o.var 1 100
  rw [g37, validO]
  cases h1 : inB 1 12 (o.syms.length : Nat) <;> rw [h1] at e1
  · simp -implicitDefEqProofs only [evs, Nat.reduceAdd, reduceIte, e1, Bool.false_and]
  · by_cases h2 : o.ws.length = o.syms.length
    · have h2' : ((o.ws.length : Nat) : Int) = ((o.syms.length : Nat) : Int) := by rw [h2]
      have key := l6Good_loop o hw h2 0 (Nat.zero_le _)
      simp only [Int.natCast_zero, List.drop_zero] at key
      cases h3 : inB 1 100 o.var <;> rw [h3] at e2
      · simp -implicitDefEqProofs only [evs, Nat.reduceAdd, reduceIte, e1, h2', e2, Bool.false_and, Bool.and_false]
      · simp -implicitDefEqProofs only [evs, Nat.reduceAdd, reduceIte, e1, h2', h2, e2, key, Bool.true_and]
    · have h2' : ¬ ((o.ws.length : Nat) : Int) = ((o.syms.length : Nat) : Int) := by omega
      simp -implicitDefEqProofs only [evs, Nat.reduceAdd, reduceIte, e1, h2', h2, Bool.false_and, Bool.true_and]

/-! ### Covering -/
mutual
def covT (l : List (List UInt8)) : T → Bool
  | .mk n us => (varN n || l.contains n) && covTL l us
def covTL (l : List (List UInt8)) : List T → Bool
  | [] => true
  | t :: ts => covT l t && covTL l ts
end
theorem covT_eq (l : List (List UInt8)) (t : T) : covT l t = ((varN t.name || l.contains t.name) && covTL l t.args) := by cases t; rfl
theorem covTL_all (l : List (List UInt8)) : ∀ ts, covTL l ts = ts.all (covT l)
  | [] => rfl
  | t :: ts => by rw [covTL, covTL_all l ts, List.all_cons]

theorem okT_args {t : T} (h : okT t = true) : ∀ u ∈ t.args, okT u = true := by
  rw [okT_eq] at h
  intro u hu
  split at h
  · rw [List.isEmpty_iff.1 h] at hu; cases hu
  · simp only [Bool.and_eq_true] at h
    rw [okTL_all] at h
    exact List.all_eq_true.1 h.2.2 u hu
theorem okT_name {t : T} (h : okT t = true) : ∃ c r, t.name = c :: r ∧ varN t.name = upc c ∧ (upc c = false → symN t.name = true) := by
  rw [okT_eq] at h
  cases hn : t.name with
  | nil => rw [hn] at h; simp [varN, symN] at h
  | cons c r =>
    refine ⟨c, r, rfl, ?_, ?_⟩
    · rw [hn] at h
      cases hu : upc c with
      | false => simp [varN, hu]
      | true =>
        cases hv : varN (c :: r) with
        | true => rfl
        | false =>
          rw [hv] at h
          have : lowc c = false := by
            simp only [upc, inB, lowc, Bool.and_eq_true, decide_eq_true_eq] at hu ⊢
            have : ¬ (97 ≤ (c.toNat : Int)) := by omega
            simp [this]
          simp [symN, this] at h
    · intro hu
      rw [hn] at h
      have : varN (c :: r) = false := by simp [varN, hu]
      rw [this] at h
      simp at h
      exact h.1

theorem isVar_eq (t : T) (h : okT t = true) : G 123 [tm t] = some (vb (varN t.name), []) := by
  obtain ⟨c, r, hn, hv, _⟩ := okT_name h
  have e1 := isUpper_eq c
  rw [← hv] at e1
  rw [g123]
  have hx : pIndexS (sv t.name) (vi 0) = some (vy (c.toNat : Int)) := by rw [hn]; exact pIndexS_0
  simp -implicitDefEqProofs only [evs, Nat.reduceAdd, reduceIte, hx, e1]

theorem l6Covers_eq (o : Ord') (ho : o.syms.length ≤ 9223372036854775807) : ∀ t : T, twf t → G 79 [od o, tm t] = some (vb (covT o.syms t), []) := by
  refine T.ind fun t ih hw => ?_
  obtain ⟨w1, w2, w3⟩ := (twf_eq t).1 hw
  have w3 := (twfL_iff _).1 w3
  have e1 := l2Var_eq t.name w1
  have e2 := rank_eq o t.name ho
  have e2' := fidxI_neg t.name o.syms
  have key := upto (P := fun i => L79_0 (vi i) (strs o.syms) (ints o.ws) (vi o.var) (sv t.name) (tms t.args) = some (vb (covTL o.syms (t.args.drop i)), [])) (n := t.args.length) ?_ ?_ 0 (Nat.zero_le _)
  · simp only [Int.natCast_zero, List.drop_zero] at key
    rw [g79, covT_eq]
    cases hv : varN t.name <;> rw [hv] at e1
    · cases hc : o.syms.contains t.name <;> rw [hc] at e2'
      · simp -implicitDefEqProofs only [evs, Nat.reduceAdd, reduceIte, e1, e2, e2', Bool.false_or, Bool.false_and]
      · simp -implicitDefEqProofs only [evs, Nat.reduceAdd, reduceIte, e1, e2, e2', key, Bool.false_or, Bool.true_and]
    · simp -implicitDefEqProofs only [evs, Nat.reduceAdd, reduceIte, e1, key, Bool.true_or, Bool.true_and]
  · rw [l79_0, List.drop_length]
    simp -implicitDefEqProofs only [evs, Nat.reduceAdd, reduceIte, covTL]
  · intro i hi ih'
    have hlt : (i : Int) < ((t.args.length : Nat) : Int) := by omega
    have h5 := add_one hi w2
    have e3 := ih t.args[i] (List.getElem_mem _) (w3 _ (List.getElem_mem _))
    rw [l79_0, drop_cons hi, covTL]
    cases hp : covT o.syms t.args[i] <;> rw [hp] at e3
    · simp -implicitDefEqProofs only [evs, Nat.reduceAdd, reduceIte, hlt, pIndexAddr_map hi, pLoadN_tcells, e3, Bool.false_and]
    · simp -implicitDefEqProofs only [evs, Nat.reduceAdd, reduceIte, hlt, pIndexAddr_map hi, pLoadN_tcells, e3, h5, ih', Bool.true_and]

/-- A term that is valid and covered. -/
def good (o : Ord') (t : T) : Bool := validT t && covT o.syms t
theorem l6Term_eq (o : Ord') (t : T) (ho : o.syms.length ≤ 9223372036854775807) (hw : twf t) (hs : tsz t ≤ 1048576) : G 159 [od o, tm t] = some (vb (good o t), []) := by
  have e1 := l2Good_eq t hw hs
  have e2 := l6Covers_eq o ho t hw
  rw [g159, good]
  cases h : validT t <;> rw [h] at e1 <;> simp -implicitDefEqProofs only [evs, Nat.reduceAdd, reduceIte, e1, e2, Bool.true_and, Bool.false_and]

/-! ### Weights -/
def symW (o : Ord') (n : List UInt8) : Int := match fidx n o.syms with | some k => o.ws.getD k 0 | none => 0
mutual
def wt (o : Ord') : T → Int
  | .mk n us => (if varN n then o.var else symW o n) + wtL o us
def wtL (o : Ord') : List T → Int
  | [] => 0
  | t :: ts => wt o t + wtL o ts
end
theorem wt_eq (o : Ord') (t : T) : wt o t = (if varN t.name then o.var else symW o t.name) + wtL o t.args := by cases t; rfl

theorem validO_spec {o : Ord'} (h : validO o = true) : o.ws.length = o.syms.length ∧ 1 ≤ o.var ∧ o.var ≤ 100 ∧ ∀ i, i < o.syms.length → o.var ≤ o.ws.getD i 0 ∧ o.ws.getD i 0 ≤ 100 := by
  simp only [validO, Bool.and_eq_true, decide_eq_true_eq, inB] at h
  obtain ⟨_, h2, ⟨h3, h4⟩, h5⟩ := h
  refine ⟨h2, h3, h4, fun i hi => ?_⟩
  have := List.all_eq_true.1 h5 i (by simpa using hi)
  simp only [chkO, Bool.and_eq_true, inB, decide_eq_true_eq] at this
  exact this.2.2

theorem cov_some {o : Ord'} {n : List UInt8} (h : o.syms.contains n = true) : ∃ k, fidx n o.syms = some k ∧ k < o.syms.length := by
  rw [← fidx_isSome] at h
  obtain ⟨k, hk⟩ := Option.isSome_iff_exists.1 h
  exact ⟨k, hk, (fidx_lt hk).1⟩

/-- A symbol's weight, as it is looked up. -/
theorem symW_at {o : Ord'} (hv : validO o = true) {n : List UInt8} (h : o.syms.contains n = true) : pIndexAddr 1 (ints o.ws) (vi (fidxI 0 (fidx n o.syms))) = some (.elt (ci (symW o n)) 0) ∧ 1 ≤ symW o n ∧ symW o n ≤ 100 := by
  obtain ⟨k, hk, hlt⟩ := cov_some h
  obtain ⟨h1, h2, h3, h4⟩ := validO_spec hv
  have h5 := h4 k hlt
  have hlt' : k < o.ws.length := by omega
  have e : symW o n = o.ws[k] := by simp [symW, hk, List.getD_eq_getElem?_getD, hlt']
  rw [hk]
  have e2 : fidxI 0 (some k) = ((k : Nat) : Int) := by simp [fidxI]
  rw [e2, pIndexAddr_ci hlt', e]
  have e3 : o.ws.getD k 0 = o.ws[k] := by simp [List.getD_eq_getElem?_getD, hlt']
  rw [e3] at h5
  exact ⟨rfl, by omega, by omega⟩

theorem wt_bound {o : Ord'} (hv : validO o = true) : ∀ t : T, covT o.syms t = true → 1 ≤ wt o t ∧ wt o t ≤ 100 * nodes t := by
  refine T.ind fun t ih hc => ?_
  rw [covT_eq, Bool.and_eq_true] at hc
  obtain ⟨h1, h2, h3, _⟩ := validO_spec hv
  have hL : ∀ ts : List T, (∀ u ∈ ts, 1 ≤ wt o u ∧ wt o u ≤ 100 * nodes u) → 0 ≤ wtL o ts ∧ wtL o ts ≤ 100 * nodesL ts := by
    intro ts
    induction ts with
    | nil => intro _; simp [wtL, nodesL]
    | cons u us ih =>
      intro h
      have a := h u (by simp)
      have b := ih fun v hv => h v (by simp [hv])
      simp only [wtL, nodesL]
      omega
  have hb := hL t.args fun u hu => ih u hu (by
    have := hc.2
    rw [covTL_all] at this
    exact List.all_eq_true.1 this u hu)
  rw [wt_eq, nodes_eq]
  cases hn : varN t.name with
  | true => simp only [if_true]; omega
  | false =>
    have hcn := hc.1
    rw [hn, Bool.false_or] at hcn
    have := (symW_at hv hcn).2
    simp only [Bool.false_eq_true, if_false]
    omega

theorem wtL_bound {o : Ord'} (hv : validO o = true) {ts : List T} (hc : covTL o.syms ts = true) : 0 ≤ wtL o ts ∧ wtL o ts ≤ 100 * nodesL ts := by
  induction ts with
  | nil => simp [wtL, nodesL]
  | cons u us ih =>
    simp only [covTL, Bool.and_eq_true] at hc
    have a := wt_bound hv u hc.1
    have b := ih hc.2
    simp only [wtL, nodesL]
    omega

theorem covTL_drop {l : List (List UInt8)} {ts : List T} (h : covTL l ts = true) (i : Nat) : covTL l (ts.drop i) = true := by
  rw [covTL_all] at h ⊢
  exact List.all_eq_true.2 fun u hu => List.all_eq_true.1 h u (List.mem_of_mem_drop hu)
theorem covTL_mem {l : List (List UInt8)} {ts : List T} (h : covTL l ts = true) {u : T} (hu : u ∈ ts) : covT l u = true := by
  rw [covTL_all] at h
  exact List.all_eq_true.1 h u hu
theorem weight_loop {o : Ord'} (hv : validO o = true) (ts : List T) (hl : ts.length ≤ 9223372036854775807) (hn : nodesL ts ≤ 1048577) (hc : covTL o.syms ts = true) (ih : ∀ t ∈ ts, G 127 [od o, tm t] = some (vi (wt o t), [])) :
    ∀ i, i ≤ ts.length → ∀ a : Int, 0 ≤ a → a + wtL o (ts.drop i) ≤ 200000000 → L127_0 (vi a) (tms ts) (vi (ts.length : Nat)) (vi i) (strs o.syms) (ints o.ws) (vi o.var) = some (vi (a + wtL o (ts.drop i)), []) := by
  refine upto ?_ ?_
  · intro a ha hb
    rw [l127_0, List.drop_length]
    simp -implicitDefEqProofs only [evs, Nat.reduceAdd, reduceIte, wtL, Int.add_zero]
  · intro i hi ih' a ha hb
    have hlt : (i : Int) < ((ts.length : Nat) : Int) := by omega
    have h5 := add_one hi hl
    have e1 := ih ts[i] (List.getElem_mem _)
    have b1 := wt_bound hv ts[i] (covTL_mem hc (List.getElem_mem _))
    have b2 := wtL_bound hv (covTL_drop hc (i + 1))
    rw [drop_cons hi] at hb ⊢
    simp only [wtL] at hb ⊢
    have hk : ck (a + wt o ts[i]) = some (vi (a + wt o ts[i])) := ck_le (by omega) (by omega)
    have ih' := ih' (a + wt o ts[i]) (by omega) (by omega)
    rw [l127_0]
    simp -implicitDefEqProofs only [evs, Nat.reduceAdd, reduceIte, hlt, pIndexAddr_map hi, pLoadN_tcells, e1, hk, h5, ih', Int.add_assoc]

theorem weight_eq {o : Ord'} (hv : validO o = true) (ho : o.syms.length ≤ 9223372036854775807) : ∀ t : T, twf t → tsz t ≤ 1048576 → okT t = true → covT o.syms t = true → G 127 [od o, tm t] = some (vi (wt o t), []) := by
  refine T.ind fun t ih hw hs hk hc => ?_
  obtain ⟨w1, w2, w3⟩ := (twf_eq t).1 hw
  have w3 := (twfL_iff _).1 w3
  have e1 := isVar_eq t hk
  have hb := wt_bound hv t hc
  have hn := nodes_le t
  rw [nodes_eq] at hn
  rw [nodes_eq] at hb
  have hks := okT_args hk
  rw [okT_eq] at hk
  rw [covT_eq, Bool.and_eq_true] at hc
  rw [wt_eq] at hb ⊢
  rw [g127]
  cases hvn : varN t.name <;> rw [hvn] at e1 hc hk hb
  · have hcn := hc.1
    rw [Bool.false_or] at hcn
    obtain ⟨e2, e3, e4⟩ := symW_at hv hcn
    have e5 := index_strs o.syms t.name ho
    have hbl := wtL_bound hv hc.2
    have key := weight_loop hv t.args w2 (by omega) hc.2 (fun u hu => ih u hu (w3 u hu) (by have := tsz_mem hu; rw [tsz_eq] at hs; omega) (hks u hu) (covTL_mem hc.2 hu)) 0 (Nat.zero_le _) (symW o t.name) (by omega) (by simp only [List.drop_zero]; omega)
    simp only [Int.natCast_zero, List.drop_zero] at key
    simp -implicitDefEqProofs only [evs, Nat.reduceAdd, reduceIte, e1, e5, e2, key]
  · simp only [if_true] at hk
    have : t.args = [] := List.isEmpty_iff.1 hk
    rw [this]
    simp -implicitDefEqProofs only [evs, Nat.reduceAdd, reduceIte, e1, wtL, Int.add_zero]

theorem l6Weight_loop {o : Ord'} (hv : validO o = true) (n : List UInt8) (ts : List T) (hl : ts.length ≤ 9223372036854775807) (hc : covTL o.syms ts = true) (ih : ∀ t ∈ ts, G 81 [od o, tm t] = some (vi (wt o t), [])) :
    ∀ i, i ≤ ts.length → ∀ a : Int, 0 ≤ a → a + wtL o (ts.drop i) ≤ 200000000 → L81_0 (vi a) (vi i) (strs o.syms) (ints o.ws) (vi o.var) (sv n) (tms ts) = some (vi (a + wtL o (ts.drop i)), []) := by
  refine upto ?_ ?_
  · intro a ha hb
    rw [l81_0, List.drop_length]
    simp -implicitDefEqProofs only [evs, Nat.reduceAdd, reduceIte, wtL, Int.add_zero]
  · intro i hi ih' a ha hb
    have hlt : (i : Int) < ((ts.length : Nat) : Int) := by omega
    have h5 := add_one hi hl
    have e1 := ih ts[i] (List.getElem_mem _)
    have b1 := wt_bound hv ts[i] (covTL_mem hc (List.getElem_mem _))
    have b2 := wtL_bound hv (covTL_drop hc (i + 1))
    rw [drop_cons hi] at hb ⊢
    simp only [wtL] at hb ⊢
    have hk : ck (a + wt o ts[i]) = some (vi (a + wt o ts[i])) := ck_le (by omega) (by omega)
    have ih' := ih' (a + wt o ts[i]) (by omega) (by omega)
    rw [l81_0]
    simp -implicitDefEqProofs only [evs, Nat.reduceAdd, reduceIte, hlt, pIndexAddr_map hi, pLoadN_tcells, e1, hk, h5, ih', Int.add_assoc]

theorem l6Weight_eq {o : Ord'} (hv : validO o = true) (ho : o.syms.length ≤ 9223372036854775807) : ∀ t : T, twf t → tsz t ≤ 1048576 → covT o.syms t = true → G 81 [od o, tm t] = some (vi (wt o t), []) := by
  refine T.ind fun t ih hw hs hc => ?_
  obtain ⟨w1, w2, w3⟩ := (twf_eq t).1 hw
  have w3 := (twfL_iff _).1 w3
  have e1 := l2Var_eq t.name w1
  have hb := wt_bound hv t hc
  have hn := nodes_le t
  rw [nodes_eq] at hn
  rw [nodes_eq] at hb
  obtain ⟨_, v2, v3, _⟩ := validO_spec hv
  rw [covT_eq, Bool.and_eq_true] at hc
  rw [wt_eq] at hb ⊢
  rw [g81]
  have hbl := wtL_bound hv hc.2
  have key := fun a h1 h2 => l6Weight_loop hv t.name t.args w2 hc.2 (fun u hu => ih u hu (w3 u hu) (by have := tsz_mem hu; rw [tsz_eq] at hs; omega) (covTL_mem hc.2 hu)) 0 (Nat.zero_le _) a h1 h2
  simp only [Int.natCast_zero, List.drop_zero] at key
  cases hvn : varN t.name <;> rw [hvn] at e1 hc hb
  · have hcn := hc.1
    rw [Bool.false_or] at hcn
    obtain ⟨e2, e3, e4⟩ := symW_at hv hcn
    have e5 := rank_eq o t.name ho
    have key := key (symW o t.name) (by omega) (by omega)
    simp -implicitDefEqProofs only [evs, Nat.reduceAdd, reduceIte, e1, e5, e2, key]
  · have key := key o.var (by omega) (by omega)
    simp -implicitDefEqProofs only [evs, Nat.reduceAdd, reduceIte, e1, key]

theorem good_spec {o : Ord'} {t : T} (h : good o t = true) : okT t = true ∧ covT o.syms t = true ∧ nodes t ≤ 30 := by
  simp only [good, validT, smallT, Bool.and_eq_true, decide_eq_true_eq] at h
  exact ⟨h.1.2, h.2, h.1.1.1⟩

/-! ### TermWeight -/
def termWeight (o : Ord') (t : T) : A := if validO o && good o t then .tup [vi (wt o t), vb true] else .tup [vi 0, vb false]

end Go.Proofs.YtnbjmmldjggkfaaGreat
/- THE LEXICOGRAPHIC PATH ORDERING. -/
namespace Go.Proofs.YtnbjmmldjggkfaaGreat
open Go Go.RowKit Go.Proofs.YtnbjmmldjggkfaaGreat.Abs

set_option linter.unusedSimpArgs false
set_option linter.unusedVariables false
set_option maxHeartbeats 1000000

theorem pLoadN_2 (a b : A) : pLoadN 2 (.elt [a, b] 0) = some (.agg [a, b]) := rfl
theorem pLoadN_3 (a b c : A) : pLoadN 3 (.elt [a, b, c] 0) = some (.agg [a, b, c]) := rfl

/-- Equality as a truth value. -/
noncomputable def dq {α : Type} (a b : α) : Bool := @decide (a = b) (Classical.propDecidable _)
theorem dq_true {α : Type} {a b : α} : dq a b = true ↔ a = b := by unfold dq; exact @decide_eq_true_iff _ (Classical.propDecidable _)
theorem dq_false {α : Type} {a b : α} : dq a b = false ↔ ¬ a = b := by unfold dq; exact @decide_eq_false_iff_not _ (Classical.propDecidable _)
theorem dq_self {α : Type} (a : α) : dq a a = true := dq_true.2 rfl
theorem dq_cons {α : Type} (a b : α) (l r : List α) : dq (a :: l) (b :: r) = (dq a b && dq l r) := by
  rw [Bool.eq_iff_iff, Bool.and_eq_true, dq_true, dq_true, dq_true, List.cons.injEq]
theorem dq_T (s t : T) : dq s t = (decide (s.name = t.name) && dq s.args t.args) := by
  cases s with
  | mk n us => cases t with
    | mk m vs => rw [Bool.eq_iff_iff, Bool.and_eq_true, dq_true, dq_true, decide_eq_true_iff, T.mk.injEq]; rfl

theorem dq_len {α : Type} {a b : List α} (h : ¬ a.length = b.length) : dq a b = false := dq_false.2 fun e => h (by rw [e])

theorem equalTerms_args (ts us : List T) (hl : ts.length ≤ 9223372036854775807) (hlen : ts.length = us.length) (ih : ∀ t ∈ ts, ∀ u ∈ us, G 58 [tm t, tm u] = some (vb (dq t u), [])) :
    ∀ i, i ≤ ts.length → L98_0 (tms us) (.fn 58 []) (tms ts) (vi (ts.length : Nat)) (vi i) = some (vb (dq (ts.drop i) (us.drop i)), []) := by
  refine upto ?_ ?_
  · rw [l98_0, List.drop_length, hlen, List.drop_length, dq_self]
    simp -implicitDefEqProofs only [evs, Nat.reduceAdd, reduceIte]
  · intro i hi ih'
    have hlt : (i : Int) < ((ts.length : Nat) : Int) := by omega
    have hi2 : i < us.length := by omega
    have h5 := add_one hi hl
    have e1 := ih ts[i] (List.getElem_mem _) us[i] (List.getElem_mem _)
    rw [l98_0, drop_cons hi, drop_cons hi2, dq_cons]
    cases hp : dq ts[i] us[i] <;> rw [hp] at e1
    · simp -implicitDefEqProofs only [evs, Nat.reduceAdd, reduceIte, hlt, pIndexAddr_map hi, pIndexAddr_map hi2, pLoadN_tcells, callc_fn (f := 58) rfl, List.append_nil, e1, Bool.false_and]
    · simp -implicitDefEqProofs only [evs, Nat.reduceAdd, reduceIte, hlt, pIndexAddr_map hi, pIndexAddr_map hi2, pLoadN_tcells, callc_fn (f := 58) rfl, List.append_nil, e1, h5, ih', Bool.true_and]

theorem equalTerms_eq : ∀ s : T, twf s → ∀ t : T, twf t → G 58 [tm s, tm t] = some (vb (dq s t), []) := by
  refine T.ind fun s ih hw t hw' => ?_
  obtain ⟨w1, w2, w3⟩ := (twf_eq s).1 hw
  have w3 := (twfL_iff _).1 w3
  obtain ⟨v1, v2, v3⟩ := (twf_eq t).1 hw'
  have v3 := (twfL_iff _).1 v3
  rw [g58, dq_T]
  by_cases hn : s.name = t.name
  · have e : G 98 [tms s.args, tms t.args, .fn 58 []] = some (vb (dq s.args t.args), []) := by
      rw [g98]
      by_cases hlen : s.args.length = t.args.length
      · have key := equalTerms_args s.args t.args w2 hlen (fun a ha b hb => ih a ha (w3 a ha) b (v3 b hb)) 0 (Nat.zero_le _)
        simp only [Int.natCast_zero, List.drop_zero] at key
        rw [hlen] at key
        simp -implicitDefEqProofs only [evs, Nat.reduceAdd, reduceIte, hlen, key]
      · have hlen' : ¬ ((s.args.length : Nat) : Int) = ((t.args.length : Nat) : Int) := by omega
        simp -implicitDefEqProofs only [evs, Nat.reduceAdd, reduceIte, hlen', dq_len hlen]
    simp -implicitDefEqProofs only [evs, Nat.reduceAdd, reduceIte, hn, e, Bool.true_and]
  · simp -implicitDefEqProofs only [evs, Nat.reduceAdd, reduceIte, hn, Bool.false_and]

theorem l2Same_loop (n m : List UInt8) (ts us : List T) (hl : ts.length ≤ 9223372036854775807) (hlen : ts.length = us.length) (ih : ∀ t ∈ ts, ∀ u ∈ us, G 56 [tm t, tm u] = some (vb (dq t u), [])) :
    ∀ i, i ≤ ts.length → L56_0 (vi i) (sv n) (tms ts) (sv m) (tms us) = some (vb (dq (ts.drop i) (us.drop i)), []) := by
  refine upto ?_ ?_
  · rw [l56_0, List.drop_length, hlen, List.drop_length, dq_self]
    simp -implicitDefEqProofs only [evs, Nat.reduceAdd, reduceIte, hlen]
  · intro i hi ih'
    have hlt : (i : Int) < ((ts.length : Nat) : Int) := by omega
    have hi2 : i < us.length := by omega
    have h5 := add_one hi hl
    have e1 := ih ts[i] (List.getElem_mem _) us[i] (List.getElem_mem _)
    rw [l56_0, drop_cons hi, drop_cons hi2, dq_cons]
    cases hp : dq ts[i] us[i] <;> rw [hp] at e1
    · simp -implicitDefEqProofs only [evs, Nat.reduceAdd, reduceIte, hlt, pIndexAddr_map hi, pIndexAddr_map hi2, pLoadN_tcells, e1, Bool.false_and]
    · simp -implicitDefEqProofs only [evs, Nat.reduceAdd, reduceIte, hlt, pIndexAddr_map hi, pIndexAddr_map hi2, pLoadN_tcells, e1, h5, ih', Bool.true_and]

theorem l2Same_eq : ∀ s : T, twf s → ∀ t : T, twf t → G 56 [tm s, tm t] = some (vb (dq s t), []) := by
  refine T.ind fun s ih hw t hw' => ?_
  obtain ⟨w1, w2, w3⟩ := (twf_eq s).1 hw
  have w3 := (twfL_iff _).1 w3
  obtain ⟨v1, v2, v3⟩ := (twf_eq t).1 hw'
  have v3 := (twfL_iff _).1 v3
  rw [g56, dq_T]
  by_cases hn : s.name = t.name
  · by_cases hlen : s.args.length = t.args.length
    · have key := l2Same_loop t.name t.name s.args t.args w2 hlen (fun a ha b hb => ih a ha (w3 a ha) b (v3 b hb)) 0 (Nat.zero_le _)
      simp only [Int.natCast_zero, List.drop_zero] at key
      simp -implicitDefEqProofs only [evs, Nat.reduceAdd, reduceIte, hn, hlen, key, Bool.true_and]
    · have hlen' : ¬ ((s.args.length : Nat) : Int) = ((t.args.length : Nat) : Int) := by omega
      simp -implicitDefEqProofs only [evs, Nat.reduceAdd, reduceIte, hn, hlen', dq_len hlen, Bool.and_false]
  · simp -implicitDefEqProofs only [evs, Nat.reduceAdd, reduceIte, hn, Bool.false_and]

/-! ### Roots, first differences -/
def rk (o : Ord') (t : T) : Int := fidxI 0 (fidx t.name o.syms)
def cmpI (a b : Int) : Int := if a < b then -1 else if b < a then 1 else 0
def rootC (o : Ord') (s t : T) : Int := if rk o s = rk o t then cmpI (s.args.length : Nat) (t.args.length : Nat) else cmpI (rk o s) (rk o t)

theorem root_eq (o : Ord') (s t : T) (ho : o.syms.length ≤ 9223372036854775807) : G 83 [od o, tm s, tm t] = some (vi (rootC o s t), []) := by
  have e1 := rank_eq o s.name ho
  have e2 := rank_eq o t.name ho
  rw [g83]
  by_cases h : rk o s = rk o t
  · have h' : fidxI 0 (fidx s.name o.syms) = fidxI 0 (fidx t.name o.syms) := h
    by_cases h1 : ((s.args.length : Nat) : Int) < ((t.args.length : Nat) : Int)
    · simp -implicitDefEqProofs only [evs, Nat.reduceAdd, reduceIte, e1, e2, h', rootC, rk, cmpI, h1]
    · by_cases h2 : ((t.args.length : Nat) : Int) < ((s.args.length : Nat) : Int)
      · simp -implicitDefEqProofs only [evs, Nat.reduceAdd, reduceIte, e1, e2, h', rootC, rk, cmpI, h1, h2]
      · simp -implicitDefEqProofs only [evs, Nat.reduceAdd, reduceIte, e1, e2, h', rootC, rk, cmpI, h1, h2]
  · have h' : ¬ fidxI 0 (fidx s.name o.syms) = fidxI 0 (fidx t.name o.syms) := h
    by_cases h1 : fidxI 0 (fidx s.name o.syms) < fidxI 0 (fidx t.name o.syms)
    · simp -implicitDefEqProofs only [evs, Nat.reduceAdd, reduceIte, e1, e2, h', rootC, rk, cmpI, h1]
    · by_cases h2 : fidxI 0 (fidx t.name o.syms) < fidxI 0 (fidx s.name o.syms)
      · simp -implicitDefEqProofs only [evs, Nat.reduceAdd, reduceIte, e1, e2, h', rootC, rk, cmpI, h1, h2]
      · simp -implicitDefEqProofs only [evs, Nat.reduceAdd, reduceIte, e1, e2, h', rootC, rk, cmpI, h1, h2]

theorem precedes_eq (o : Ord') (s t : T) (ho : o.syms.length ≤ 9223372036854775807) : G 128 [od o, tm s, tm t] = some (vb (decide (rootC o s t < 0)), []) := by
  have e1 := index_strs o.syms s.name ho
  have e2 := index_strs o.syms t.name ho
  rw [g128]
  by_cases h : rk o s = rk o t
  · have h' : fidxI 0 (fidx s.name o.syms) = fidxI 0 (fidx t.name o.syms) := h
    by_cases h1 : ((s.args.length : Nat) : Int) < ((t.args.length : Nat) : Int)
    · simp -implicitDefEqProofs only [evs, Nat.reduceAdd, reduceIte, e1, e2, h', rootC, rk, cmpI, h1]
    · by_cases h2 : ((t.args.length : Nat) : Int) < ((s.args.length : Nat) : Int)
      · simp -implicitDefEqProofs only [evs, Nat.reduceAdd, reduceIte, e1, e2, h', rootC, rk, cmpI, h1, h2]
        rfl
      · simp -implicitDefEqProofs only [evs, Nat.reduceAdd, reduceIte, e1, e2, h', rootC, rk, cmpI, h1, h2]
  · have h' : ¬ fidxI 0 (fidx s.name o.syms) = fidxI 0 (fidx t.name o.syms) := h
    by_cases h1 : fidxI 0 (fidx s.name o.syms) < fidxI 0 (fidx t.name o.syms)
    · simp -implicitDefEqProofs only [evs, Nat.reduceAdd, reduceIte, e1, e2, h', rootC, rk, cmpI, h1]
    · have h2 : fidxI 0 (fidx t.name o.syms) < fidxI 0 (fidx s.name o.syms) := by omega
      simp -implicitDefEqProofs only [evs, Nat.reduceAdd, reduceIte, e1, e2, h', rootC, rk, cmpI, h1, h2]
      rfl

noncomputable def fd : List T → List T → Option (T × T)
  | a :: l, b :: r => if dq a b = true then fd l r else some (a, b)
  | _, _ => none

theorem fd_mem : ∀ {l r : List T} {a b : T}, fd l r = some (a, b) → a ∈ l ∧ b ∈ r
  | [], _, _, _, h => by simp [fd] at h
  | _ :: _, [], _, _, h => by simp [fd] at h
  | x :: l, y :: r, a, b, h => by
    simp only [fd] at h
    split at h
    · have := fd_mem h
      exact ⟨by simp [this.1], by simp [this.2]⟩
    · cases h; exact ⟨by simp, by simp⟩

theorem first_eq (s t : T) (hw : twf s) (hw' : twf t) (hlen : s.args.length = t.args.length) :
    (fd s.args t.args = none ∧ G 84 [tm s, tm t] = some (vi (-1), [])) ∨ ∃ (k : Nat) (h1 : k < s.args.length) (h2 : k < t.args.length), fd s.args t.args = some (s.args[k], t.args[k]) ∧ G 84 [tm s, tm t] = some (vi k, []) := by
  obtain ⟨w1, w2, w3⟩ := (twf_eq s).1 hw
  have w3 := (twfL_iff _).1 w3
  obtain ⟨v1, v2, v3⟩ := (twf_eq t).1 hw'
  have v3 := (twfL_iff _).1 v3
  have key := upto (P := fun i => (fd (s.args.drop i) (t.args.drop i) = none ∧ L84_0 (vi i) (sv s.name) (tms s.args) (sv t.name) (tms t.args) = some (vi (-1), [])) ∨ ∃ (k : Nat) (h1 : k < s.args.length) (h2 : k < t.args.length), fd (s.args.drop i) (t.args.drop i) = some (s.args[k], t.args[k]) ∧ L84_0 (vi i) (sv s.name) (tms s.args) (sv t.name) (tms t.args) = some (vi k, [])) (n := s.args.length) ?_ ?_ 0 (Nat.zero_le _)
  · simp only [Int.natCast_zero, List.drop_zero] at key
    rw [g84]
    rcases key with ⟨h1, h2⟩ | ⟨k, h1, h2, h3, h4⟩
    · exact Or.inl ⟨h1, by simp -implicitDefEqProofs only [evs, Nat.reduceAdd, reduceIte, h2]⟩
    · exact Or.inr ⟨k, h1, h2, h3, by simp -implicitDefEqProofs only [evs, Nat.reduceAdd, reduceIte, h4]⟩
  · left
    rw [l84_0, List.drop_length]
    refine ⟨by simp [fd], ?_⟩
    simp -implicitDefEqProofs only [evs, Nat.reduceAdd, reduceIte]
  · intro i hi ih
    have hlt : (i : Int) < ((s.args.length : Nat) : Int) := by omega
    have hi2 : i < t.args.length := by omega
    have h5 := add_one hi w2
    have e1 := l2Same_eq s.args[i] (w3 _ (List.getElem_mem _)) t.args[i] (v3 _ (List.getElem_mem _))
    rw [l84_0, drop_cons hi, drop_cons hi2, fd]
    cases hp : dq s.args[i] t.args[i] <;> rw [hp] at e1
    · refine Or.inr ⟨i, hi, hi2, by simp, ?_⟩
      simp -implicitDefEqProofs only [evs, Nat.reduceAdd, reduceIte, hlt, pIndexAddr_map hi, pIndexAddr_map hi2, pLoadN_tcells, e1]
    · simp -implicitDefEqProofs only [evs, Nat.reduceAdd, reduceIte, hlt, pIndexAddr_map hi, pIndexAddr_map hi2, pLoadN_tcells, e1, h5]
      exact ih

def zT : A := .agg [sv [], .sl 2 []]
noncomputable def fdR (s t : T) : A := match fd s.args t.args with | some (a, b) => .tup [tm a, tm b, vb true] | none => .tup [zT, zT, vb false]

theorem firstDiffering_eq (s t : T) (hw : twf s) (hw' : twf t) (hn : s.name = t.name) (hlen : s.args.length = t.args.length) : G 129 [tm s, tm t] = some (fdR s t, []) := by
  obtain ⟨w1, w2, w3⟩ := (twf_eq s).1 hw
  have w3 := (twfL_iff _).1 w3
  obtain ⟨v1, v2, v3⟩ := (twf_eq t).1 hw'
  have v3 := (twfL_iff _).1 v3
  have key := upto (P := fun i => L129_0 (tms s.args) (vi (s.args.length : Nat)) (vi i) (sv t.name) (tms t.args) (sv []) (sv []) [] [] = some ((match fd (s.args.drop i) (t.args.drop i) with | some (a, b) => .tup [tm a, tm b, vb true] | none => .tup [zT, zT, vb false]), [])) (n := s.args.length) ?_ ?_ 0 (Nat.zero_le _)
  · simp only [Int.natCast_zero, List.drop_zero] at key
    rw [g129, fdR]
    simp only [hlen] at key
    simp -implicitDefEqProofs only [evs, Nat.reduceAdd, reduceIte, hn, hlen, key]
  · rw [l129_0, List.drop_length]
    simp -implicitDefEqProofs only [evs, Nat.reduceAdd, reduceIte, fd, zT]
  · intro i hi ih
    have hlt : (i : Int) < ((s.args.length : Nat) : Int) := by omega
    have hi2 : i < t.args.length := by omega
    have h5 := add_one hi w2
    have e1 := equalTerms_eq s.args[i] (w3 _ (List.getElem_mem _)) t.args[i] (v3 _ (List.getElem_mem _))
    rw [l129_0, drop_cons hi, drop_cons hi2, fd]
    cases hp : dq s.args[i] t.args[i] <;> rw [hp] at e1
    · simp -implicitDefEqProofs only [evs, Nat.reduceAdd, reduceIte, hlt, pIndexAddr_map hi, pIndexAddr_map hi2, pLoadN_tcells, e1]
    · simp -implicitDefEqProofs only [evs, Nat.reduceAdd, reduceIte, hlt, pIndexAddr_map hi, pIndexAddr_map hi2, pLoadN_tcells, e1, h5, ih]

theorem firstDiffering_no (s t : T) (h : ¬ (s.name = t.name ∧ s.args.length = t.args.length)) : G 129 [tm s, tm t] = some (.tup [zT, zT, vb false], []) := by
  rw [g129]
  by_cases hn : s.name = t.name
  · have hlen' : ¬ ((s.args.length : Nat) : Int) = ((t.args.length : Nat) : Int) := fun e => h ⟨hn, by omega⟩
    simp -implicitDefEqProofs only [evs, Nat.reduceAdd, reduceIte, hn, hlen', zT]
  · simp -implicitDefEqProofs only [evs, Nat.reduceAdd, reduceIte, hn, zT]

/-! ### The ordering, by fuel -/
noncomputable def lpoN (o : Ord') : Nat → T → T → Bool
  | 0, _, _ => false
  | n + 1, s, t => if varN s.name then false else if (s.args.any fun a => dq a t || lpoN o n a t) then true else if varN t.name then false
      else if (t.args.any fun b => !lpoN o n s b) then false else if 0 < rootC o s t then true else if rootC o s t < 0 then false
      else match fd s.args t.args with | some (a, b) => lpoN o n a b | none => false

/-- Ranks of covered symbols tell them apart. -/
theorem rk_inj {o : Ord'} {s t : T} (h1 : o.syms.contains s.name = true) (h2 : o.syms.contains t.name = true) (h : rk o s = rk o t) : s.name = t.name := by
  obtain ⟨k, hk, _⟩ := cov_some h1
  obtain ⟨j, hj, _⟩ := cov_some h2
  have a1 := (fidx_lt hk).2
  have a2 := (fidx_lt hj).2
  simp only [rk, hk, hj, fidxI, Nat.zero_add] at h
  have : k = j := by omega
  subst this
  rw [a1] at a2
  exact Option.some.inj a2

theorem rootC_swap (o : Ord') (s t : T) : rootC o t s = - rootC o s t := by
  unfold rootC
  by_cases h : rk o s = rk o t
  · rw [if_pos h, if_pos h.symm]; unfold cmpI; split <;> split <;> (try split) <;> omega
  · rw [if_neg h, if_neg (Ne.symm h)]; unfold cmpI; split <;> split <;> (try split) <;> omega

end Go.Proofs.YtnbjmmldjggkfaaGreat
/- COMPARELPO: program and reference; the law. -/
namespace Go.Proofs.YtnbjmmldjggkfaaGreat
open Go Go.RowKit Go.Proofs.YtnbjmmldjggkfaaGreat.Abs

set_option linter.unusedSimpArgs false
set_option linter.unusedVariables false
set_option maxHeartbeats 1000000

def codeI (e g l : Bool) : Int := if e then 1 else if g then 2 else if l then 3 else 0

theorem l6Code_eq (e g l : Bool) : G 160 [vb e, vb g, vb l] = some (vi (codeI e g l), []) := by
  rw [g160]
  cases e <;> cases g <;> cases l <;> simp -implicitDefEqProofs only [evs, Nat.reduceAdd, reduceIte, codeI]

theorem ordered_eq {f g : FuncId} {caps caps' : List A} (hf : K.pureF f = true) (hg : K.pureF g = true) (e gr le : Bool) (h1 : G f caps = some (vb gr, [])) (h2 : G g caps' = some (vb le, [])) :
    G 90 [vb e, .fn f caps, .fn g caps'] = some (vi (codeI e gr le), []) := by
  rw [g90]
  cases e <;> cases gr <;> cases le <;> simp -implicitDefEqProofs only [evs, Nat.reduceAdd, reduceIte, callc_fn hf, callc_fn hg, List.nil_append, h1, h2, codeI]

noncomputable def cmpLPO (o : Ord') (s t : T) : Int := codeI (dq s t) (lpoN o (nodes s + nodes t) s t) (lpoN o (nodes s + nodes t) t s)
noncomputable def compareLPO (o : Ord') (s t : T) : A := if validO o && (good o s && good o t) then .tup [vi (cmpLPO o s t), vb true] else .tup [vi 0, vb false]

end Go.Proofs.YtnbjmmldjggkfaaGreat
/- THE KNUTH-BENDIX ORDERING. -/
namespace Go.Proofs.YtnbjmmldjggkfaaGreat
open Go Go.RowKit Go.Proofs.YtnbjmmldjggkfaaGreat.Abs

set_option linter.unusedSimpArgs false
set_option linter.unusedVariables false
set_option maxHeartbeats 1000000

/-! ### Variables of a term -/
mutual
def varsT : T → List (List UInt8)
  | .mk n us => if varN n then [n] else varsTL us
def varsTL : List T → List (List UInt8)
  | [] => []
  | t :: ts => varsT t ++ varsTL ts
end
theorem varsT_eq (t : T) : varsT t = if varN t.name then [t.name] else varsTL t.args := by cases t; rfl

theorem pFit_ok {n : Nat} (h : n ≤ 4000000) : pFit n 16 = true := by
  unfold pFit
  simp
  omega

/-- What the collecting comes to. -/
def Coll (l : List (List UInt8)) (vs : List (List UInt8)) (k : Nat) (r : List (List UInt8)) : Prop := (∀ n, n ∈ r ↔ n ∈ l ∨ n ∈ vs) ∧ r.length ≤ l.length + k

theorem collect_loop0 (ts : List T) (hl : ts.length ≤ 9223372036854775807) (hn : nodesL ts ≤ 1048577) (ih : ∀ t ∈ ts, ∀ l : List (List UInt8), l.length + nodes t ≤ 2100000 → ∃ r, C148_0 (sv t.name) (tms t.args) (l.map cs) = some (.top, [strs r]) ∧ Coll l (varsT t) (nodes t) r) :
    ∀ i, i ≤ ts.length → ∀ l : List (List UInt8), l.length + nodesL (ts.drop i) ≤ 2100000 → ∃ r, L148c0_1 (tms ts) (vi (ts.length : Nat)) (vi i) (l.map cs) = some (.top, [strs r]) ∧ Coll l (varsTL (ts.drop i)) (nodesL (ts.drop i)) r := by
  refine upto ?_ ?_
  · intro l hb
    rw [l148c0_1, List.drop_length]
    refine ⟨l, ?_, by simp [varsTL], by omega⟩
    simp -implicitDefEqProofs only [evs, Nat.reduceAdd, reduceIte]
  · intro i hi ih' l hb
    have hlt : (i : Int) < ((ts.length : Nat) : Int) := by omega
    have h5 := add_one hi hl
    rw [drop_cons hi] at hb ⊢
    simp only [nodesL, varsTL] at hb ⊢
    obtain ⟨r1, e1, c1, c2⟩ := ih ts[i] (List.getElem_mem _) l (by omega)
    obtain ⟨r2, e2, d1, d2⟩ := ih' r1 (by omega)
    rw [l148c0_1]
    refine ⟨r2, ?_, ?_, by omega⟩
    · simp -implicitDefEqProofs only [evs, Nat.reduceAdd, reduceIte, hlt, pIndexAddr_map hi, pLoadN_tcells, e1, h5, e2]
    · intro n
      rw [d1, c1, List.mem_append]
      exact or_assoc

theorem collect_eq : ∀ t : T, twf t → okT t = true → nodes t ≤ 1048577 → ∀ l : List (List UInt8), l.length + nodes t ≤ 2100000 → ∃ r, C148_0 (sv t.name) (tms t.args) (l.map cs) = some (.top, [strs r]) ∧ Coll l (varsT t) (nodes t) r := by
  refine T.ind fun t ih hw hk hn l hb => ?_
  obtain ⟨w1, w2, w3⟩ := (twf_eq t).1 hw
  have w3 := (twfL_iff _).1 w3
  have hks := okT_args hk
  have e1 := isVar_eq t hk
  rw [c148_0, varsT_eq]
  have hpos := nodes_pos t
  rw [nodes_eq] at hn hb ⊢
  cases hv : varN t.name <;> rw [hv] at e1
  · -- no variable
    have ih' : ∀ u ∈ t.args, ∀ l : List (List UInt8), l.length + nodes u ≤ 2100000 → ∃ r, C148_0 (sv u.name) (tms u.args) (l.map cs) = some (.top, [strs r]) ∧ Coll l (varsT u) (nodes u) r := fun u hu => ih u hu (w3 u hu) (hks u hu) (by have := nodesL_mem hu; omega)
    have loop := collect_loop0 t.args w2 (by omega) ih'
    have start : ∃ r, L148c0_0 (tms t.args) (vi (t.args.length : Nat)) (vi 0) (l.map cs) = some (.top, [strs r]) ∧ Coll l (varsTL t.args) (nodesL t.args) r := by
      rw [l148c0_0]
      by_cases h0 : t.args.length = 0
      · have ha : t.args = [] := List.length_eq_zero_iff.1 h0
        rw [ha]
        refine ⟨l, ?_, by simp [varsTL], by simp [nodesL]⟩
        simp -implicitDefEqProofs only [evs, Nat.reduceAdd, reduceIte]
        rfl
      · have hi : 0 < t.args.length := by omega
        have hlt : (0 : Int) < ((t.args.length : Nat) : Int) := by omega
        have hix : pIndexAddr 2 (tms t.args) (vi 0) = some (.elt (tcells t.args[0]) 0) := pIndexAddr_map (i := 0) hi
        have h5 : pBin .add false (vi 0) (vi 1) = some (vi ((1 : Nat) : Int)) := by rw [pBin_add, ck_le (by decide) (by decide)]; rfl
        have hd : t.args = t.args[0] :: t.args.drop 1 := by have := drop_cons hi; simpa using this
        have hns : nodesL t.args = nodes t.args[0] + nodesL (t.args.drop 1) := by conv => lhs; rw [hd, nodesL]
        have hvs : varsTL t.args = varsT t.args[0] ++ varsTL (t.args.drop 1) := by conv => lhs; rw [hd, varsTL]
        obtain ⟨r1, e1, c1, c2⟩ := ih' t.args[0] (List.getElem_mem _) l (by omega)
        obtain ⟨r2, e2, d1, d2⟩ := loop 1 (by omega) r1 (by omega)
        refine ⟨r2, ?_, ?_, by omega⟩
        · simp -implicitDefEqProofs only [evs, Nat.reduceAdd, reduceIte, hlt, hix, pLoadN_tcells, e1, h5, e2]
        · intro n
          rw [d1, c1, hvs, List.mem_append]
          exact or_assoc
    obtain ⟨r, e2, d1, d2⟩ := start
    refine ⟨r, ?_, by simpa using d1, by omega⟩
    cases h0 : decide (((t.args.length : Nat) : Int) = 0)
    · simp -implicitDefEqProofs only [evs, Nat.reduceAdd, reduceIte, h0, e2]
    · simp -implicitDefEqProofs only [evs, Nat.reduceAdd, reduceIte, h0, e1, e2]
  · have ha : t.args = [] := by
      rw [okT_eq, hv] at hk
      simpa using hk
    have h0 : decide (((t.args.length : Nat) : Int) = 0) = true := by rw [ha]; rfl
    have e3 := contains_strs l t.name (by omega)
    cases hc : l.contains t.name <;> rw [hc] at e3
    · have hf : pFit (l.length + 1) 16 = true := pFit_ok (by omega)
      refine ⟨l ++ [t.name], ?_, by simp, by simp⟩
      have happ : rApp (l.map cs) [[sv t.name]] = (l ++ [t.name]).map cs := by simp [rApp]
      simp -implicitDefEqProofs only [evs, Nat.reduceAdd, reduceIte, h0, e1, e3, hf, happ]
    · refine ⟨l, ?_, fun n => ⟨fun h => Or.inl h, fun h => by
        rcases h with h | h
        · exact h
        · simp at h; subst h; simpa using hc⟩, by omega⟩
      simp -implicitDefEqProofs only [evs, Nat.reduceAdd, reduceIte, h0, e1, e3]

theorem variables_eq (t : T) (hw : twf t) (hk : okT t = true) (hn : nodes t ≤ 1048577) : ∃ r, G 125 [tm t] = some (strs r, []) ∧ (∀ n, n ∈ r ↔ n ∈ varsT t) ∧ r.length ≤ 9223372036854775807 := by
  obtain ⟨r, e1, c1, c2⟩ := collect_eq t hw hk hn [] (by simp; omega)
  have e2 : C149_0 (r.map cs) = some (.top, [strs (sortB r)]) := by
    rw [c149_0]
    simp only [sortX, strsOf_map]
    rw [if_pos (by simp at c2; omega)]
  refine ⟨sortB r, ?_, fun n => ?_, by simp [sortB]; simp at c2; omega⟩
  · rw [g125]
    simp only [List.map_nil] at e1
    simp -implicitDefEqProofs only [evs, Nat.reduceAdd, reduceIte, e1, e2]
  · unfold sortB
    rw [List.mem_mergeSort, c1]
    simp

/-! ### Counting -/
mutual
def cnt (n : List UInt8) : T → Nat
  | .mk m us => (if m = n then 1 else 0) + cntL n us
def cntL (n : List UInt8) : List T → Nat
  | [] => 0
  | t :: ts => cnt n t + cntL n ts
end
theorem cnt_eq (n : List UInt8) (t : T) : cnt n t = (if t.name = n then 1 else 0) + cntL n t.args := by cases t; rfl
theorem cnt_le (n : List UInt8) : ∀ t : T, cnt n t ≤ nodes t := by
  refine T.ind fun t ih => ?_
  have : ∀ ts : List T, (∀ u ∈ ts, cnt n u ≤ nodes u) → cntL n ts ≤ nodesL ts := by
    intro ts
    induction ts with
    | nil => intro _; simp [cntL]
    | cons u us ih =>
      intro h
      have h1 := h u (by simp)
      have h2 := ih fun v hv => h v (by simp [hv])
      simp only [cntL, nodesL]
      omega
  have h := this t.args ih
  rw [cnt_eq, nodes_eq]
  split <;> omega
theorem cntL_le (n : List UInt8) (ts : List T) : cntL n ts ≤ nodesL ts := by
  induction ts with
  | nil => simp [cntL]
  | cons u us ih => have := cnt_le n u; simp only [cntL, nodesL]; omega

theorem countName_loop (n : List UInt8) (ts : List T) (hl : ts.length ≤ 9223372036854775807) (hn : nodesL ts ≤ 1048577) (ih : ∀ t ∈ ts, G 126 [tm t, sv n] = some (vi (cnt n t : Nat), [])) :
    ∀ i, i ≤ ts.length → ∀ a : Nat, a + cntL n (ts.drop i) ≤ 1048579 → L126_0 (sv n) (vi a) (tms ts) (vi (ts.length : Nat)) (vi i) = some (vi ((a + cntL n (ts.drop i) : Nat) : Int), []) := by
  refine upto ?_ ?_
  · intro a ha
    rw [l126_0, List.drop_length]
    simp -implicitDefEqProofs only [evs, Nat.reduceAdd, reduceIte, cntL, Nat.add_zero]
  · intro i hi ih' a ha
    have hlt : (i : Int) < ((ts.length : Nat) : Int) := by omega
    have h5 := add_one hi hl
    have e1 := ih ts[i] (List.getElem_mem _)
    rw [drop_cons hi] at ha ⊢
    simp only [cntL] at ha ⊢
    have hk : ck ((a : Int) + ((cnt n ts[i] : Nat) : Int)) = some (vi ((a + cnt n ts[i] : Nat) : Int)) := by rw [ck_le (by omega) (by omega)]; rfl
    have ih' := ih' (a + cnt n ts[i]) (by omega)
    rw [l126_0]
    simp -implicitDefEqProofs only [evs, Nat.reduceAdd, reduceIte, hlt, pIndexAddr_map hi, pLoadN_tcells, e1, hk, h5, ih', Nat.add_assoc]

theorem countName_eq (n : List UInt8) : ∀ t : T, twf t → nodes t ≤ 1048577 → G 126 [tm t, sv n] = some (vi (cnt n t : Nat), []) := by
  refine T.ind fun t ih hw hn => ?_
  obtain ⟨w1, w2, w3⟩ := (twf_eq t).1 hw
  have w3 := (twfL_iff _).1 w3
  rw [nodes_eq] at hn
  have hc := cntL_le n t.args
  have key := fun a h => countName_loop n t.args w2 (by omega) (fun u hu => ih u hu (w3 u hu) (by have := nodesL_mem hu; omega)) 0 (Nat.zero_le _) a h
  simp only [Int.natCast_zero, List.drop_zero] at key
  rw [g126, cnt_eq]
  by_cases h : t.name = n
  · have key := key 1 (by omega)
    simp only [Int.natCast_one] at key
    simp -implicitDefEqProofs only [evs, Nat.reduceAdd, reduceIte, h, key]
  · have key := key 0 (by omega)
    simp only [Int.natCast_zero] at key
    simp -implicitDefEqProofs only [evs, Nat.reduceAdd, reduceIte, h, key]

theorem l2Count_loop (m n : List UInt8) (ts : List T) (hl : ts.length ≤ 9223372036854775807) (hn : nodesL ts ≤ 1048577) (ih : ∀ t ∈ ts, G 118 [tm t, sv n] = some (vi (cnt n t : Nat), [])) :
    ∀ i, i ≤ ts.length → ∀ a : Nat, a + cntL n (ts.drop i) ≤ 1048579 → L118_0 (sv n) (vi a) (vi i) (sv m) (tms ts) = some (vi ((a + cntL n (ts.drop i) : Nat) : Int), []) := by
  refine upto ?_ ?_
  · intro a ha
    rw [l118_0, List.drop_length]
    simp -implicitDefEqProofs only [evs, Nat.reduceAdd, reduceIte, cntL, Nat.add_zero]
  · intro i hi ih' a ha
    have hlt : (i : Int) < ((ts.length : Nat) : Int) := by omega
    have h5 := add_one hi hl
    have e1 := ih ts[i] (List.getElem_mem _)
    rw [drop_cons hi] at ha ⊢
    simp only [cntL] at ha ⊢
    have hk : ck ((a : Int) + ((cnt n ts[i] : Nat) : Int)) = some (vi ((a + cnt n ts[i] : Nat) : Int)) := by rw [ck_le (by omega) (by omega)]; rfl
    have ih' := ih' (a + cnt n ts[i]) (by omega)
    rw [l118_0]
    simp -implicitDefEqProofs only [evs, Nat.reduceAdd, reduceIte, hlt, pIndexAddr_map hi, pLoadN_tcells, e1, hk, h5, ih', Nat.add_assoc]

theorem l2Count_eq (n : List UInt8) : ∀ t : T, twf t → nodes t ≤ 1048577 → G 118 [tm t, sv n] = some (vi (cnt n t : Nat), []) := by
  refine T.ind fun t ih hw hn => ?_
  obtain ⟨w1, w2, w3⟩ := (twf_eq t).1 hw
  have w3 := (twfL_iff _).1 w3
  rw [nodes_eq] at hn
  have hc := cntL_le n t.args
  have key := fun a h => l2Count_loop t.name n t.args w2 (by omega) (fun u hu => ih u hu (w3 u hu) (by have := nodesL_mem hu; omega)) 0 (Nat.zero_le _) a h
  simp only [Int.natCast_zero, List.drop_zero] at key
  rw [g118, cnt_eq]
  by_cases h : t.name = n
  · have key := key 1 (by omega)
    simp only [Int.natCast_one] at key
    rw [h] at key
    simp -implicitDefEqProofs only [evs, Nat.reduceAdd, reduceIte, h, key]
  · have key := key 0 (by omega)
    simp only [Int.natCast_zero] at key
    simp -implicitDefEqProofs only [evs, Nat.reduceAdd, reduceIte, h, key]

/-! ### The reference's variables -/
theorem l2Put_eq (l : List (List UInt8)) (s : List UInt8) (hl : l.length ≤ 2100000) : ∃ r, G 156 [strs l, sv s] = some (strs r, []) ∧ Coll l [s] 1 r := by
  have key := upto (P := fun i => ∃ r, L156_0 (strs l) (sv s) (vi i) = some (strs r, []) ∧ Coll l [s] 1 r) (n := l.length) ?_ ?_ 0 (Nat.zero_le _)
  · simp only [Int.natCast_zero] at key
    rw [g156]
    exact key
  · have hx : ¬ ((l.length : Nat) : Int) < ((l.length : Nat) : Int) := Int.lt_irrefl _
    have s1 : pSlice 1 (strs l) none (some (vi (l.length : Nat))) = some (strs l) := by rw [pSlice_take (by simp), List.take_of_length_le (by simp)]
    have s2 : pSlice 1 (strs l) (some (vi (l.length : Nat))) none = some (.sl 1 []) := by rw [pSlice_drop (by simp), List.drop_of_length_le (by simp)]
    have f1 : pFit l.length 16 = true := pFit_ok (by omega)
    have f2 : pFit (l.length + 1) 16 = true := pFit_ok (by omega)
    have happ : rApp (rApp (l.map cs) [[sv s]]) [] = (l ++ [s]).map cs := by simp [rApp]
    have hlen : (rApp (l.map cs) [[sv s]]).length = l.length + 1 := by simp [rApp]
    refine ⟨l ++ [s], ?_, by intro n; simp, by simp⟩
    rw [l156_0]
    simp -implicitDefEqProofs only [evs, Nat.reduceAdd, reduceIte, hx, s1, s2, f1, f2, hlen, happ, Nat.add_zero]
  · intro i hi ih
    have hlt : (i : Int) < ((l.length : Nat) : Int) := by omega
    have h5 := add_one hi (by omega)
    rw [l156_0]
    cases h1 : sLt l[i] s
    · by_cases h2 : l[i] = s
      · refine ⟨l, ?_, fun n => ⟨fun h => Or.inl h, fun h => by
          rcases h with h | h
          · exact h
          · simp at h; rw [h, ← h2]; exact List.getElem_mem _⟩, by omega⟩
        rw [h2] at h1
        simp -implicitDefEqProofs only [evs, Nat.reduceAdd, reduceIte, hlt, pIndexAddr_map hi, h2, h1]
      · have s1 : pSlice 1 (strs l) none (some (vi i)) = some (strs (l.take i)) := by rw [pSlice_take (by simp; omega), ← List.map_take]
        have s2 : pSlice 1 (strs l) (some (vi i)) none = some (strs (l.drop i)) := by rw [pSlice_drop (by simp; omega), ← List.map_drop]
        have ht : (l.take i).length = i := by rw [List.length_take]; omega
        have f1 : pFit i 16 = true := pFit_ok (by omega)
        have f2 : pFit (i + 1) 16 = true := pFit_ok (by omega)
        have f3 : pFit (i + 1 + (l.drop i).length) 16 = true := pFit_ok (by rw [List.length_drop]; omega)
        have happ : rApp (rApp ((l.take i).map cs) [[sv s]]) ((l.drop i).map cs) = (l.take i ++ [s] ++ l.drop i).map cs := by simp [rApp]
        have hlen : (rApp ((l.take i).map cs) [[sv s]]).length = i + 1 := by simp [rApp]; omega
        refine ⟨l.take i ++ [s] ++ l.drop i, ?_, fun n => ?_, by simp; omega⟩
        · simp -implicitDefEqProofs only [evs, Nat.reduceAdd, reduceIte, hlt, pIndexAddr_map hi, h1, h2, s1, s2, ht, f1, f2, f3, hlen, happ]
        · have hm : n ∈ l ↔ n ∈ l.take i ∨ n ∈ l.drop i := by rw [← List.mem_append, List.take_append_drop]
          simp only [List.mem_append, List.mem_singleton, hm]
          exact ⟨fun h => by rcases h with (h | h) | h <;> simp [h], fun h => by rcases h with (h | h) | h <;> simp [h]⟩
    · obtain ⟨r, e, c⟩ := ih
      refine ⟨r, ?_, c⟩
      simp -implicitDefEqProofs only [evs, Nat.reduceAdd, reduceIte, hlt, pIndexAddr_map hi, h1, h5, e]

theorem l2Into_eq : ∀ t : T, twf t → ∀ l : List (List UInt8), l.length + nodes t ≤ 2100000 → ∃ r, G 147 [strs l, tm t] = some (strs r, []) ∧ Coll l (varsT t) (nodes t) r := by
  refine T.ind fun t ih hw l hb => ?_
  obtain ⟨w1, w2, w3⟩ := (twf_eq t).1 hw
  have w3 := (twfL_iff _).1 w3
  have e1 := l2Var_eq t.name w1
  rw [g147, varsT_eq]
  rw [nodes_eq] at hb ⊢
  cases hv : varN t.name <;> rw [hv] at e1
  · have key := upto (P := fun i => ∀ l : List (List UInt8), l.length + nodesL (t.args.drop i) ≤ 2100000 → ∃ r, L147_0 (strs l) (vi i) (sv t.name) (tms t.args) = some (strs r, []) ∧ Coll l (varsTL (t.args.drop i)) (nodesL (t.args.drop i)) r) (n := t.args.length) ?_ ?_ 0 (Nat.zero_le _)
    · simp only [Int.natCast_zero, List.drop_zero] at key
      obtain ⟨r, e, c1, c2⟩ := key l (by omega)
      refine ⟨r, ?_, by simpa using c1, by omega⟩
      simp -implicitDefEqProofs only [evs, Nat.reduceAdd, reduceIte, e1, e]
    · intro l hb
      rw [l147_0, List.drop_length]
      refine ⟨l, ?_, by simp [varsTL], by omega⟩
      simp -implicitDefEqProofs only [evs, Nat.reduceAdd, reduceIte]
    · intro i hi ih' l hb
      have hlt : (i : Int) < ((t.args.length : Nat) : Int) := by omega
      have h5 := add_one hi w2
      rw [drop_cons hi] at hb ⊢
      simp only [nodesL, varsTL] at hb ⊢
      obtain ⟨r1, a1, c1, c2⟩ := ih t.args[i] (List.getElem_mem _) (w3 _ (List.getElem_mem _)) l (by omega)
      obtain ⟨r2, a2, d1, d2⟩ := ih' r1 (by omega)
      rw [l147_0]
      refine ⟨r2, ?_, ?_, by omega⟩
      · simp -implicitDefEqProofs only [evs, Nat.reduceAdd, reduceIte, hlt, pIndexAddr_map hi, pLoadN_tcells, a1, h5, a2]
      · intro n
        rw [d1, c1, List.mem_append]
        exact or_assoc
  · obtain ⟨r, e, c1, c2⟩ := l2Put_eq l t.name (by omega)
    refine ⟨r, ?_, by simpa using c1, by omega⟩
    simp -implicitDefEqProofs only [evs, Nat.reduceAdd, reduceIte, e1, e]

theorem l2Vars_eq (t : T) (hw : twf t) (hn : nodes t ≤ 1048577) : ∃ r, G 117 [tm t] = some (strs r, []) ∧ (∀ n, n ∈ r ↔ n ∈ varsT t) ∧ r.length ≤ 9223372036854775807 := by
  obtain ⟨r, e, c1, c2⟩ := l2Into_eq t hw [] (by simp; omega)
  have e : G 147 [.sl 1 [], tm t] = some (strs r, []) := e
  refine ⟨r, ?_, fun n => by rw [c1]; simp, by simp at c2; omega⟩
  rw [g117]
  simp -implicitDefEqProofs only [evs, Nat.reduceAdd, reduceIte, e]

/-! ### The ordering, by fuel -/
def bal (s t : T) : Bool := (varsT t).all fun n => decide (cnt n t ≤ cnt n s)
theorem bal_of {r : List (List UInt8)} {s t : T} (h : ∀ n, n ∈ r ↔ n ∈ varsT t) : (r.all fun n => decide (cnt n t ≤ cnt n s)) = bal s t := by
  unfold bal
  rw [Bool.eq_iff_iff, List.all_eq_true, List.all_eq_true]
  exact ⟨fun a n hn => a n ((h n).2 hn), fun a n hn => a n ((h n).1 hn)⟩

theorem balanced_eq (s t : T) (hw : twf s) (hw' : twf t) (hs : nodes s ≤ 1048577) (ht : nodes t ≤ 1048577) : G 80 [tm s, tm t] = some (vb (bal s t), []) := by
  obtain ⟨r, e, c1, c2⟩ := l2Vars_eq t hw' ht
  have key := upto (P := fun i => L80_0 (strs r) (vi i) (sv s.name) (tms s.args) (sv t.name) (tms t.args) = some (vb ((r.drop i).all fun n => decide (cnt n t ≤ cnt n s)), [])) (n := r.length) ?_ ?_ 0 (Nat.zero_le _)
  · simp only [Int.natCast_zero, List.drop_zero] at key
    rw [bal_of c1] at key
    rw [g80]
    simp -implicitDefEqProofs only [evs, Nat.reduceAdd, reduceIte, e, key]
  · rw [l80_0, List.drop_length]
    simp -implicitDefEqProofs only [evs, Nat.reduceAdd, reduceIte]
  · intro i hi ih
    have hlt : (i : Int) < ((r.length : Nat) : Int) := by omega
    have h5 := add_one hi c2
    have e1 := l2Count_eq r[i] s hw hs
    have e2 := l2Count_eq r[i] t hw' ht
    rw [l80_0, drop_cons hi, List.all_cons]
    by_cases h : cnt r[i] t ≤ cnt r[i] s
    · have h' : ¬ ((cnt r[i] s : Nat) : Int) < ((cnt r[i] t : Nat) : Int) := by omega
      simp -implicitDefEqProofs only [evs, Nat.reduceAdd, reduceIte, hlt, pIndexAddr_map hi, e1, e2, h', h, h5, ih, Bool.true_and]
    · have h' : ((cnt r[i] s : Nat) : Int) < ((cnt r[i] t : Nat) : Int) := by omega
      simp -implicitDefEqProofs only [evs, Nat.reduceAdd, reduceIte, hlt, pIndexAddr_map hi, e1, e2, h', h, Bool.false_and]

noncomputable def kboN (o : Ord') : Nat → T → T → Bool
  | 0, _, _ => false
  | n + 1, s, t => if bal s t then (if wt o s = wt o t then (if varN s.name || varN t.name then false else if rootC o s t = 0 then (match fd s.args t.args with | some (a, b) => kboN o n a b | none => false) else decide (0 < rootC o s t)) else decide (wt o t < wt o s)) else false

theorem kbo_args {s t a b : T} {n : Nat} (ha : a ∈ s.args) (hb : b ∈ t.args) (h : nodes s + nodes t ≤ n + 1) : nodes a + nodes b ≤ n := by
  have h1 := nodesL_mem ha
  have h2 := nodesL_mem hb
  rw [nodes_eq s, nodes_eq t] at h
  omega

theorem root_zero {o : Ord'} {s t : T} (h : rootC o s t = 0) : rk o s = rk o t ∧ s.args.length = t.args.length := by
  unfold rootC cmpI at h
  split at h
  · rename_i h1
    refine ⟨h1, ?_⟩
    split at h
    · cases h
    · split at h
      · cases h
      · omega
  · split at h
    · cases h
    · split at h
      · cases h
      · omega

theorem l6KBO_eq {o : Ord'} (hv : validO o = true) (ho : o.syms.length ≤ 9223372036854775807) : ∀ (n : Nat) (s t : T), nodes s + nodes t ≤ n → twf s → twf t → tsz s ≤ 1048576 → tsz t ≤ 1048576 → covT o.syms s = true → covT o.syms t = true → G 39 [od o, tm s, tm t] = some (vb (kboN o n s t), [])
  | 0, s, t, h, _, _, _, _, _, _ => by have := nodes_pos s; omega
  | n + 1, s, t, h, hw, hw', hs, ht, hc, hc' => by
    obtain ⟨w1, w2, w3⟩ := (twf_eq s).1 hw
    have w3 := (twfL_iff _).1 w3
    obtain ⟨v1, v2, v3⟩ := (twf_eq t).1 hw'
    have v3 := (twfL_iff _).1 v3
    have hns := nodes_le s
    have hnt := nodes_le t
    have e1 := balanced_eq s t hw hw' (by omega) (by omega)
    have e2 := l6Weight_eq hv ho s hw hs hc
    have e3 := l6Weight_eq hv ho t hw' ht hc'
    have e4 := l2Var_eq s.name w1
    have e5 := l2Var_eq t.name v1
    have e6 := root_eq o s t ho
    have cs1 : ∀ a ∈ s.args, covT o.syms a = true := fun a ha => by rw [covT_eq, Bool.and_eq_true] at hc; exact covTL_mem hc.2 ha
    have cs2 : ∀ a ∈ t.args, covT o.syms a = true := fun a ha => by rw [covT_eq, Bool.and_eq_true] at hc'; exact covTL_mem hc'.2 ha
    rw [g39, kboN]
    cases hb : bal s t <;> rw [hb] at e1
    · simp -implicitDefEqProofs only [evs, Nat.reduceAdd, reduceIte, e1]
    by_cases hwt : wt o s = wt o t
    rotate_left
    · simp -implicitDefEqProofs only [evs, Nat.reduceAdd, reduceIte, e1, e2, e3, hwt]
    cases hv1 : varN s.name <;> rw [hv1] at e4
    rotate_left
    · simp -implicitDefEqProofs only [evs, Nat.reduceAdd, reduceIte, e1, e2, e3, hwt, e4, Bool.true_or]
    cases hv2 : varN t.name <;> rw [hv2] at e5
    rotate_left
    · simp -implicitDefEqProofs only [evs, Nat.reduceAdd, reduceIte, e1, e2, e3, hwt, e4, e5, Bool.false_or]
    by_cases hr : rootC o s t = 0
    rotate_left
    · simp -implicitDefEqProofs only [evs, Nat.reduceAdd, reduceIte, e1, e2, e3, hwt, e4, e5, e6, hr, Bool.false_or]
    obtain ⟨_, hlen⟩ := root_zero hr
    rcases first_eq s t hw hw' hlen with ⟨f1, f2⟩ | ⟨k, k1, k2, f1, f2⟩
    · have : ¬ (0 : Int) ≤ -1 := by decide
      simp -implicitDefEqProofs only [evs, Nat.reduceAdd, reduceIte, e1, e2, e3, hwt, e4, e5, e6, hr, Bool.false_or, f1, f2, this]
    · have m1 := List.getElem_mem k1
      have m2 := List.getElem_mem k2
      have e7 := l6KBO_eq hv ho n s.args[k] t.args[k] (kbo_args m1 m2 h) (w3 _ m1) (v3 _ m2) (by have := tsz_mem m1; rw [tsz_eq] at hs; omega) (by have := tsz_mem m2; rw [tsz_eq] at ht; omega) (cs1 _ m1) (cs2 _ m2)
      have : (0 : Int) ≤ (k : Int) := by omega
      simp -implicitDefEqProofs only [evs, Nat.reduceAdd, reduceIte, e1, e2, e3, hwt, e4, e5, e6, hr, Bool.false_or, f1, f2, this, pIndexAddr_map k1, pIndexAddr_map k2, pLoadN_tcells, e7]

theorem kbo_eq {o : Ord'} (hv : validO o = true) (ho : o.syms.length ≤ 9223372036854775807) : ∀ (n : Nat) (s t : T), nodes s + nodes t ≤ n → twf s → twf t → tsz s ≤ 1048576 → tsz t ≤ 1048576 → okT s = true → okT t = true → covT o.syms s = true → covT o.syms t = true → G 92 [od o, tm s, tm t] = some (vb (kboN o n s t), [])
  | 0, s, t, h, _, _, _, _, _, _, _, _ => by have := nodes_pos s; omega
  | n + 1, s, t, h, hw, hw', hs, ht, hk, hk', hc, hc' => by
    obtain ⟨w1, w2, w3⟩ := (twf_eq s).1 hw
    have w3 := (twfL_iff _).1 w3
    obtain ⟨v1, v2, v3⟩ := (twf_eq t).1 hw'
    have v3 := (twfL_iff _).1 v3
    have hns := nodes_le s
    have hnt := nodes_le t
    have ks := okT_args hk
    have ks' := okT_args hk'
    have e2 := weight_eq hv ho s hw hs hk hc
    have e3 := weight_eq hv ho t hw' ht hk' hc'
    have e4 := isVar_eq s hk
    have e5 := isVar_eq t hk'
    have e6 := precedes_eq o t s ho
    rw [rootC_swap] at e6
    have cs1 : ∀ a ∈ s.args, covT o.syms a = true := fun a ha => by rw [covT_eq, Bool.and_eq_true] at hc; exact covTL_mem hc.2 ha
    have cs2 : ∀ a ∈ t.args, covT o.syms a = true := fun a ha => by rw [covT_eq, Bool.and_eq_true] at hc'; exact covTL_mem hc'.2 ha
    obtain ⟨r, er, c1, c2⟩ := variables_eq t hw' hk' (by omega)
    have tail : L92_0 (strs r) (vi (r.length : Nat)) (vi (r.length : Nat)) (strs o.syms) (ints o.ws) (vi o.var) (sv s.name) (tms s.args) (sv t.name) (tms t.args) = some (vb (if wt o s = wt o t then (if varN s.name || varN t.name then false else if rootC o s t = 0 then (match fd s.args t.args with | some (a, b) => kboN o n a b | none => false) else decide (0 < rootC o s t)) else decide (wt o t < wt o s)), []) := by
      rw [l92_0]
      by_cases hwt : wt o s = wt o t
      rotate_left
      · simp -implicitDefEqProofs only [evs, Nat.reduceAdd, reduceIte, e2, e3, hwt]
      have hnlt : ¬ wt o t < wt o s := by omega
      cases hv1 : varN s.name <;> rw [hv1] at e4
      rotate_left
      · simp -implicitDefEqProofs only [evs, Nat.reduceAdd, reduceIte, e2, e3, hwt, e4, Bool.true_or]
      cases hv2 : varN t.name <;> rw [hv2] at e5
      rotate_left
      · simp -implicitDefEqProofs only [evs, Nat.reduceAdd, reduceIte, e2, e3, hwt, e4, e5, Bool.false_or]
      by_cases hr : rootC o s t = 0
      · have hr' : ¬ -rootC o s t < 0 := by omega
        obtain ⟨hrk, hlen⟩ := root_zero hr
        have hcn : o.syms.contains s.name = true := by rw [covT_eq, hv1, Bool.false_or, Bool.and_eq_true] at hc; exact hc.1
        have hcn' : o.syms.contains t.name = true := by rw [covT_eq, hv2, Bool.false_or, Bool.and_eq_true] at hc'; exact hc'.1
        have e7 := firstDiffering_eq s t hw hw' (rk_inj hcn hcn' hrk) hlen
        cases hf : fd s.args t.args with
        | none =>
          have : fdR s t = .tup [zT, zT, vb false] := by unfold fdR; rw [hf]
          rw [this] at e7
          simp only [hr] at e6
          simp -implicitDefEqProofs only [evs, Nat.reduceAdd, reduceIte, e2, e3, hwt, e4, e5, e6, hr, hr', Bool.false_or, e7, zT, Int.neg_zero]
        | some p =>
          obtain ⟨a, b⟩ := p
          have : fdR s t = .tup [tm a, tm b, vb true] := by unfold fdR; rw [hf]
          rw [this] at e7
          obtain ⟨ma, mb⟩ := fd_mem hf
          have e8 := kbo_eq hv ho n a b (kbo_args ma mb h) (w3 a ma) (v3 b mb) (by have := tsz_mem ma; rw [tsz_eq] at hs; omega) (by have := tsz_mem mb; rw [tsz_eq] at ht; omega) (ks a ma) (ks' b mb) (cs1 a ma) (cs2 b mb)
          simp only [hr] at e6
          simp -implicitDefEqProofs only [evs, Nat.reduceAdd, reduceIte, e2, e3, hwt, e4, e5, e6, hr, hr', Bool.false_or, e7, e8, Int.neg_zero]
      · by_cases hg : 0 < rootC o s t
        · have hg' : -rootC o s t < 0 := by omega
          simp -implicitDefEqProofs only [evs, Nat.reduceAdd, reduceIte, e2, e3, hwt, e4, e5, e6, hr, hg, hg', Bool.false_or]
        · have hg' : ¬ -rootC o s t < 0 := by omega
          have hno : ¬ (s.name = t.name ∧ s.args.length = t.args.length) := by
            rintro ⟨q1, q2⟩
            apply hr
            have : rk o s = rk o t := by unfold rk; rw [q1]
            unfold rootC cmpI
            rw [if_pos this, q2]
            simp
          have e7 := firstDiffering_no s t hno
          simp -implicitDefEqProofs only [evs, Nat.reduceAdd, reduceIte, e2, e3, hwt, e4, e5, e6, hr, hg, hg', Bool.false_or, e7, zT]
    have key := upto (P := fun i => L92_0 (strs r) (vi (r.length : Nat)) (vi i) (strs o.syms) (ints o.ws) (vi o.var) (sv s.name) (tms s.args) (sv t.name) (tms t.args) = some (vb (if ((r.drop i).all fun n => decide (cnt n t ≤ cnt n s)) then (if wt o s = wt o t then (if varN s.name || varN t.name then false else if rootC o s t = 0 then (match fd s.args t.args with | some (a, b) => kboN o n a b | none => false) else decide (0 < rootC o s t)) else decide (wt o t < wt o s)) else false), [])) (n := r.length) ?_ ?_ 0 (Nat.zero_le _)
    · simp only [Int.natCast_zero, List.drop_zero] at key
      rw [bal_of c1] at key
      rw [g92, kboN]
      simp -implicitDefEqProofs only [evs, Nat.reduceAdd, reduceIte, er]
      exact key
    · rw [tail, List.drop_length]
      rfl
    · intro i hi ih
      have hlt : (i : Int) < ((r.length : Nat) : Int) := by omega
      have h5 := add_one hi c2
      have a1 := countName_eq r[i] s hw (by omega)
      have a2 := countName_eq r[i] t hw' (by omega)
      rw [l92_0, drop_cons hi, List.all_cons]
      by_cases hcn : cnt r[i] t ≤ cnt r[i] s
      · have h' : ¬ ((cnt r[i] s : Nat) : Int) < ((cnt r[i] t : Nat) : Int) := by omega
        simp -implicitDefEqProofs only [evs, Nat.reduceAdd, reduceIte, hlt, pIndexAddr_map hi, a1, a2, h', hcn, h5, ih, Bool.true_and]
      · have h' : ((cnt r[i] s : Nat) : Int) < ((cnt r[i] t : Nat) : Int) := by omega
        simp -implicitDefEqProofs only [evs, Nat.reduceAdd, reduceIte, hlt, pIndexAddr_map hi, a1, a2, h', hcn, Bool.false_and]

/-! ### CompareKBO -/
noncomputable def cmpKBO (o : Ord') (s t : T) : Int := codeI (dq s t) (kboN o (nodes s + nodes t) s t) (kboN o (nodes s + nodes t) t s)
noncomputable def compareKBO (o : Ord') (s t : T) : A := if validO o && (good o s && good o t) then .tup [vi (cmpKBO o s t), vb true] else .tup [vi 0, vb false]

theorem spec_compareKBO (o : Ord') (s t : T) (ho : owf o) (hw : twf s) (hs : tsz s ≤ 1048576) (hw' : twf t) (hs' : tsz t ≤ 1048576) : G 152 [od o, tm s, tm t] = some (compareKBO o s t, []) := by
  have e1 := l6Good_eq o ho
  have e2 := l6Term_eq o s ho.1.2 hw hs
  have e3 := l6Term_eq o t ho.1.2 hw' hs'
  have e4 := l2Same_eq s hw t hw'
  have e7 := l6Code_eq (dq s t) (kboN o (nodes s + nodes t) s t) (kboN o (nodes s + nodes t) t s)
  rw [g152, compareKBO]
  cases h : validO o <;> rw [h] at e1
  · simp -implicitDefEqProofs only [evs, Nat.reduceAdd, reduceIte, e1, Bool.false_and]
  · cases h2 : good o s <;> rw [h2] at e2
    · simp -implicitDefEqProofs only [evs, Nat.reduceAdd, reduceIte, e1, e2, Bool.and_false, Bool.false_and]
    · cases h3 : good o t <;> rw [h3] at e3
      · simp -implicitDefEqProofs only [evs, Nat.reduceAdd, reduceIte, e1, e2, e3, Bool.and_false]
      · have g2 := good_spec h2
        have g3 := good_spec h3
        have e5 := l6KBO_eq h ho.1.2 (nodes s + nodes t) s t (Nat.le_refl _) hw hw' hs hs' g2.2.1 g3.2.1
        have e6 := l6KBO_eq h ho.1.2 (nodes s + nodes t) t s (by omega) hw' hw hs' hs g3.2.1 g2.2.1
        simp -implicitDefEqProofs only [evs, Nat.reduceAdd, reduceIte, e1, e2, e3, e4, e5, e6, e7, cmpKBO]

theorem compareKBO_code {o : Ord'} (hv : validO o = true) (s t : T) (ho : owf o) (hw : twf s) (hs : tsz s ≤ 1048576) (hw' : twf t) (hs' : tsz t ≤ 1048576) (hk : okT s = true) (hk' : okT t = true) (hc : covT o.syms s = true) (hc' : covT o.syms t = true) : G 47 [od o, tm s, tm t] = some (vi (cmpKBO o s t), []) := by
  have e4 := equalTerms_eq s hw t hw'
  have e5 := kbo_eq hv ho.1.2 (nodes s + nodes t) s t (Nat.le_refl _) hw hw' hs hs' hk hk' hc hc'
  have e6 := kbo_eq hv ho.1.2 (nodes s + nodes t) t s (by omega) hw' hw hs' hs hk' hk hc' hc
  have c1 : G 91 [.elt (ocells o) 0, .elt [sv s.name, .sl 2 (s.args.map tcells)] 0, .elt [sv t.name, .sl 2 (t.args.map tcells)] 0] = some (vb (kboN o (nodes s + nodes t) s t), []) := by
    rw [g91]
    simp -implicitDefEqProofs only [evs, Nat.reduceAdd, reduceIte, pLoadN_2, pLoadN_3, e5]
  have c2 : G 93 [.elt (ocells o) 0, .elt [sv t.name, .sl 2 (t.args.map tcells)] 0, .elt [sv s.name, .sl 2 (s.args.map tcells)] 0] = some (vb (kboN o (nodes s + nodes t) t s), []) := by
    rw [g93]
    simp -implicitDefEqProofs only [evs, Nat.reduceAdd, reduceIte, pLoadN_2, pLoadN_3, e6]
  have e7 := ordered_eq (f := 91) (g := 93) rfl rfl (dq s t) _ _ c1 c2
  rw [g47]
  simp -implicitDefEqProofs only [evs, Nat.reduceAdd, reduceIte, e4, e7, cmpKBO]

end Go.Proofs.YtnbjmmldjggkfaaGreat
/- EQUATIONS: an atom with two sides, valid and covered. -/
namespace Go.Proofs.YtnbjmmldjggkfaaGreat
open Go Go.RowKit Go.Proofs.YtnbjmmldjggkfaaGreat.Abs

set_option linter.unusedSimpArgs false
set_option linter.unusedVariables false
set_option maxHeartbeats 1000000

def arg0 (t : T) : T := t.args.getD 0 (.mk [] [])
def arg1 (t : T) : T := t.args.getD 1 (.mk [] [])
/-- A valid equation. -/
def eqnT (t : T) : Bool := decide (t.args.length = 2) && (smallT t && (okT (arg0 t) && okT (arg1 t)))

theorem arg_facts {t : T} (hl : t.args.length = 2) : pIndexAddr 2 (tms t.args) (vi 0) = some (.elt (tcells (arg0 t)) 0) ∧ pIndexAddr 2 (tms t.args) (vi 1) = some (.elt (tcells (arg1 t)) 0) ∧ arg0 t ∈ t.args ∧ arg1 t ∈ t.args := by
  have e0 : arg0 t = t.args[0] := by unfold arg0; simp [List.getD_eq_getElem?_getD, hl]
  have e1 : arg1 t = t.args[1] := by unfold arg1; simp [List.getD_eq_getElem?_getD, hl]
  rw [e0, e1]
  exact ⟨pIndexAddr_map (i := 0) (by omega), pIndexAddr_map (i := 1) (by omega), List.getElem_mem _, List.getElem_mem _⟩

theorem l2Atom_eqn (t : T) (hw : twf t) (hs : tsz t ≤ 1048576) (he : t.name = [61]) : G 53 [tm t] = some (vb (eqnT t), []) := by
  obtain ⟨w1, w2, w3⟩ := (twf_eq t).1 hw
  have w3 := (twfL_iff _).1 w3
  have het : (t.name = [61]) = True := eq_true he
  unfold eqnT
  rw [g53]
  by_cases hl : t.args.length = 2
  rotate_left
  · have hl' : ¬ ((t.args.length : Nat) : Int) = 2 := by omega
    simp -implicitDefEqProofs only [evs, Nat.reduceAdd, reduceIte, het, hl', hl, Bool.false_and]
  have hl' : ((t.args.length : Nat) : Int) = 2 := by omega
  rw [decide_eq_true hl, Bool.true_and]
  obtain ⟨i0, i1, ma, mb⟩ := arg_facts hl
  have p1 := l2Fits_eq t hw hs
  have p2 := l2Nodes_eq _ (w3 _ ma)
  have p3 := l2Nodes_eq _ (w3 _ mb)
  cases h1 : smallT t <;> rw [h1] at p1
  · simp -implicitDefEqProofs only [evs, Nat.reduceAdd, reduceIte, het, hl', p1, Bool.false_and, Bool.and_false]
  · cases h2 : okT (arg0 t) <;> rw [h2] at p2
    · simp -implicitDefEqProofs only [evs, Nat.reduceAdd, reduceIte, het, hl', p1, i0, pLoadN_tcells, p2, Bool.false_and, Bool.and_false]
    · simp -implicitDefEqProofs only [evs, Nat.reduceAdd, reduceIte, het, hl', p1, i0, i1, pLoadN_tcells, p2, p3, Bool.true_and]

theorem isEquality_eq (t : T) : G 43 [tm t] = some (vb (decide (t.name = [61])), []) := by
  rw [g43]
  simp -implicitDefEqProofs only [evs, Nat.reduceAdd, reduceIte]

theorem isValidAtom_eqn (t : T) (hw : twf t) (hs : tsz t ≤ 1048576) (he : t.name = [61]) : G 57 [tm t] = some (vb (eqnT t), []) := by
  obtain ⟨w1, w2, w3⟩ := (twf_eq t).1 hw
  have w3 := (twfL_iff _).1 w3
  have q0 := isEquality_eq t
  rw [decide_eq_true he] at q0
  unfold eqnT
  rw [g57]
  by_cases hl : t.args.length = 2
  rotate_left
  · have hl' : ¬ ((t.args.length : Nat) : Int) = 2 := by omega
    simp -implicitDefEqProofs only [evs, Nat.reduceAdd, reduceIte, q0, hl', hl, Bool.false_and]
  have hl' : ((t.args.length : Nat) : Int) = 2 := by omega
  rw [decide_eq_true hl, Bool.true_and]
  obtain ⟨i0, i1, ma, mb⟩ := arg_facts hl
  have p1 := isSmall_eq t hw hs
  have p2 := hasNames_eq _ (w3 _ ma)
  have p3 := hasNames_eq _ (w3 _ mb)
  cases h1 : smallT t <;> rw [h1] at p1
  · simp -implicitDefEqProofs only [evs, Nat.reduceAdd, reduceIte, q0, hl', p1, Bool.false_and, Bool.and_false]
  · cases h2 : okT (arg0 t) <;> rw [h2] at p2
    · simp -implicitDefEqProofs only [evs, Nat.reduceAdd, reduceIte, q0, hl', p1, i0, pLoadN_tcells, p2, Bool.false_and, Bool.and_false]
    · simp -implicitDefEqProofs only [evs, Nat.reduceAdd, reduceIte, q0, hl', p1, i0, i1, pLoadN_tcells, p2, p3, Bool.true_and]

/-- A valid equation whose sides are covered. -/
def eqnO (o : Ord') (t : T) : Bool := decide (t.name = [61]) && (eqnT t && (covT o.syms (arg0 t) && covT o.syms (arg1 t)))

end Go.Proofs.YtnbjmmldjggkfaaGreat
/- THE REFERENCE'S COPIES OF TERMS. -/
namespace Go.Proofs.YtnbjmmldjggkfaaGreat
open Go Go.RowKit Go.Proofs.YtnbjmmldjggkfaaGreat.Abs

set_option linter.unusedSimpArgs false
set_option linter.unusedVariables false
set_option maxHeartbeats 1000000

theorem tsz_mk (n : List UInt8) (us : List T) : tsz (.mk n us) = n.length + us.length + tszL us := rfl
theorem twf_le : ∀ t : T, tsz t ≤ 1048576 → twf t := by
  refine T.ind fun t ih h => ?_
  have h' := h
  rw [tsz_eq] at h'
  exact (twf_eq t).2 ⟨by omega, by omega, (twfL_iff _).2 fun u hu => ih u hu (by have := tsz_mem hu; omega)⟩
theorem pF40 {n : Nat} (h : n ≤ 4194304) : pFit n 40 = true := by
  unfold pFit
  exact decide_eq_true ⟨by omega, by omega⟩
theorem own_eq (t : T) : tsz t ≤ 1048576 → G 40 [tm t] = some (tm t, []) := by
  refine T.ind (p := fun t => tsz t ≤ 1048576 → G 40 [tm t] = some (tm t, [])) ?_ t
  intro t ih h
  rw [tsz_eq] at h
  have key := (upto (P := fun i => L40_0 (vi i) (sv t.name) (tms t.args) (sv []) (sv t.name) [] ((t.args.take i).map tcells) = some (tm t, [])) (n := t.args.length) ?_ ?_ 0 (Nat.zero_le _))
  · rw [g40]
    simp only [Int.natCast_zero, List.take_zero, List.map_nil] at key
    simp -implicitDefEqProofs only [evs, Nat.reduceAdd, reduceIte, key]
  · rw [l40_0, List.take_length]
    simp -implicitDefEqProofs only [evs, Nat.reduceAdd, reduceIte]
  · intro i hi ih'
    have hlt : (i : Int) < ((t.args.length : Nat) : Int) := by omega
    have h5 := add_one hi (by show t.args.length ≤ 9223372036854775807; omega)
    have e1 := ih t.args[i] (List.getElem_mem _) (by have := tsz_mem (List.getElem_mem hi); omega)
    have hf : pFit (i + 1) 40 = true := pF40 (by omega)
    have hl : ((t.args.take i).map tcells).length = i := by rw [List.length_map, List.length_take]; omega
    have ha : rApp ((t.args.take i).map tcells) [[sv t.args[i].name, tms t.args[i].args]] = (t.args.take (i + 1)).map tcells := by
      rw [show [sv t.args[i].name, tms t.args[i].args] = tcells t.args[i] from (tcells_eq _).symm, List.take_add_one, List.getElem?_eq_getElem hi, List.map_append]
      rfl
    rw [l40_0]
    simp -implicitDefEqProofs only [evs, Nat.reduceAdd, reduceIte, hlt, pIndexAddr_map hi, pLoadN_tcells, e1, hl, hf, ha, h5, ih', List.length_take, Nat.min_eq_left (Nat.le_of_lt hi)]
end Go.Proofs.YtnbjmmldjggkfaaGreat
/- BOTH ORDERINGS: transitive, irreflexive, above their parts. Plain. -/
namespace Go.Proofs.YtnbjmmldjggkfaaGreat
open Go Go.RowKit Go.Proofs.YtnbjmmldjggkfaaGreat.Abs

set_option linter.unusedSimpArgs false
set_option linter.unusedVariables false
set_option maxHeartbeats 1000000

/-! ### Roots -/
theorem rc_zero (o : Ord') (s t : T) : rootC o s t = 0 ↔ rk o s = rk o t ∧ s.args.length = t.args.length := by
  unfold rootC cmpI
  constructor
  · intro h
    split at h
    · rename_i h1
      refine ⟨h1, ?_⟩
      split at h
      · omega
      · split at h <;> omega
    · split at h
      · omega
      · split at h <;> omega
  · rintro ⟨h1, h2⟩
    rw [if_pos h1, if_neg (by omega), if_neg (by omega)]
theorem rc_self (o : Ord') (s : T) : rootC o s s = 0 := (rc_zero o s s).2 ⟨rfl, rfl⟩

/-! ### The first difference -/
theorem fd_self : ∀ l : List T, fd l l = none
  | [] => rfl
  | x :: l => by rw [fd, if_pos (dq_true.2 rfl), fd_self l]
/-! ### The path ordering -/
def Lp (o : Ord') (s t : T) : Prop := lpoN o (nodes s + nodes t) s t = true
theorem arg_nodes {s a : T} (h : a ∈ s.args) : nodes a < nodes s := by
  have := nodesL_mem h
  rw [nodes_eq s]
  omega
/-! ### The weight ordering -/
def Kp (o : Ord') (s t : T) : Prop := kboN o (nodes s + nodes t) s t = true
theorem kbo_stable (o : Ord') : ∀ (n m : Nat) (s t : T), nodes s + nodes t ≤ n → nodes s + nodes t ≤ m → kboN o n s t = kboN o m s t
  | 0, _, s, t, h, _ => by have := nodes_pos s; omega
  | _ + 1, 0, s, t, _, h => by have := nodes_pos s; omega
  | n + 1, m + 1, s, t, h1, h2 => by
    rw [kboN, kboN]
    cases hf : fd s.args t.args with
    | none => rfl
    | some p =>
      obtain ⟨a, b⟩ := p
      have hm := fd_mem hf
      have h3 := arg_nodes hm.1
      have h4 := arg_nodes hm.2
      simp only [kbo_stable o n m a b (by omega) (by omega)]
theorem Kp_iff (o : Ord') (s t : T) : Kp o s t ↔ bal s t = true ∧ (wt o t < wt o s ∨ (wt o s = wt o t ∧ (varN s.name = false ∧ varN t.name = false) ∧ (0 < rootC o s t ∨ (rootC o s t = 0 ∧ ∃ a b, fd s.args t.args = some (a, b) ∧ Kp o a b)))) := by
  unfold Kp
  obtain ⟨n, hn⟩ : ∃ n, nodes s + nodes t = n + 1 := ⟨nodes s + nodes t - 1, by have := nodes_pos s; omega⟩
  rw [hn, kboN]
  have e3 : (match fd s.args t.args with | some (a, b) => kboN o n a b | none => false) = true ↔ ∃ a b, fd s.args t.args = some (a, b) ∧ kboN o (nodes a + nodes b) a b = true := by
    cases hf : fd s.args t.args with
    | none => simp
    | some p =>
      obtain ⟨a, b⟩ := p
      have hm := fd_mem hf
      have h3 := arg_nodes hm.1
      have h4 := arg_nodes hm.2
      dsimp only
      rw [kbo_stable o n (nodes a + nodes b) a b (by omega) (Nat.le_refl _)]
      constructor
      · intro h; exact ⟨a, b, rfl, h⟩
      · rintro ⟨a', b', h, h'⟩; cases h; exact h'
  cases hb : bal s t
  · simp
  · rw [if_pos rfl]
    simp only [true_and]
    by_cases hw : wt o s = wt o t
    · rw [if_pos hw]
      have hw' : ¬ wt o t < wt o s := by omega
      cases hv : varN s.name
      · cases hv2 : varN t.name
        · simp only [Bool.or_self, Bool.false_eq_true, if_false, true_and, and_self]
          by_cases hr : rootC o s t = 0
          · rw [if_pos hr]
            refine Iff.trans e3 ?_
            constructor
            · intro h; exact Or.inr ⟨hw, Or.inr ⟨hr, h⟩⟩
            · rintro (h | ⟨_, h | ⟨_, h⟩⟩)
              · exact (hw' h).elim
              · omega
              · exact h
          · rw [if_neg hr, decide_eq_true_iff]
            constructor
            · intro h; exact Or.inr ⟨hw, Or.inl h⟩
            · rintro (h | ⟨_, h | ⟨h, _⟩⟩)
              · exact (hw' h).elim
              · exact h
              · exact (hr h).elim
        · simp [hw']
      · simp [hw']
    · rw [if_neg hw, decide_eq_true_iff]
      constructor
      · intro h; exact Or.inl h
      · rintro (h | ⟨h, _⟩)
        · exact h
        · exact (hw h).elim

theorem Kp_irr (o : Ord') (x : T) : ¬ Kp o x x := by
  intro h
  obtain ⟨_, h | ⟨_, _, h | ⟨_, _, _, h, _⟩⟩⟩ := (Kp_iff o x x).1 h
  · omega
  · rw [rc_self] at h; omega
  · rw [fd_self] at h; cases h
/-! ### Codes -/
theorem cmpKBO_eq (o : Ord') (s t : T) : cmpKBO o s t = codeI (dq s t) (@decide (Kp o s t) (Classical.propDecidable _)) (@decide (Kp o t s) (Classical.propDecidable _)) := by
  have e1 : kboN o (nodes s + nodes t) s t = @decide (Kp o s t) (Classical.propDecidable _) := by
    unfold Kp
    cases kboN o (nodes s + nodes t) s t <;> simp
  have e2 : kboN o (nodes s + nodes t) t s = @decide (Kp o t s) (Classical.propDecidable _) := by
    rw [kbo_stable o (nodes s + nodes t) (nodes t + nodes s) t s (by omega) (Nat.le_refl _)]
    unfold Kp
    cases kboN o (nodes t + nodes s) t s <;> simp
  unfold cmpKBO
  rw [e1, e2]
/-- A result with its arguments exchanged. -/
def rbI (c : Int) : Int := if c = 2 then 3 else if c = 3 then 2 else c
open Classical in
open Classical in
theorem code_two {R : T → T → Prop} {s t : T} (hir : ∀ x, ¬ R x x) : codeI (dq s t) (decide (R s t)) (decide (R t s)) = 2 ↔ R s t := by
  unfold codeI
  cases hd : dq s t
  · by_cases h1 : R s t
    · simp [h1]
    · by_cases h2 : R t s <;> simp [h1, h2]
  · have := dq_true.1 hd
    subst this
    simp [hir s]
theorem kbo_two (o : Ord') (s t : T) : cmpKBO o s t = 2 ↔ Kp o s t := by
  rw [cmpKBO_eq]
  exact code_two (R := Kp o) (Kp_irr o)
end Go.Proofs.YtnbjmmldjggkfaaGreat
/- SUBSTITUTIONS, AND THAT BOTH ORDERINGS ARE STABLE UNDER THEM. Plain. -/
namespace Go.Proofs.YtnbjmmldjggkfaaGreat
open Go Go.RowKit Go.Proofs.YtnbjmmldjggkfaaGreat.Abs

set_option linter.unusedSimpArgs false
set_option linter.unusedVariables false
set_option maxHeartbeats 1000000

/-- What a substitution gives for a variable. -/
def look : List (List UInt8 × T) → List UInt8 → Option T
  | [], _ => none
  | p :: u, n => if p.1 = n then some p.2 else look u n
def sub1 (u : List (List UInt8 × T)) (n : List UInt8) : T := (look u n).getD (.mk n [])
mutual
def sub (u : List (List UInt8 × T)) : T → T
  | .mk n us => if varN n then sub1 u n else .mk n (subL u us)
def subL (u : List (List UInt8 × T)) : List T → List T
  | [] => []
  | t :: ts => sub u t :: subL u ts
end
theorem subL_map (u : List (List UInt8 × T)) : ∀ ts : List T, subL u ts = ts.map (sub u)
  | [] => rfl
  | t :: ts => by rw [subL, subL_map u ts, List.map_cons]
theorem sub_var {u : List (List UInt8 × T)} {t : T} (h : varN t.name = true) : sub u t = sub1 u t.name := by
  obtain ⟨n, us⟩ := t
  have h : varN n = true := h
  show (if varN n then sub1 u n else T.mk n (subL u us)) = _
  rw [if_pos h]
  rfl
theorem sub_fun {u : List (List UInt8 × T)} {t : T} (h : varN t.name = false) : sub u t = .mk t.name (t.args.map (sub u)) := by
  obtain ⟨n, us⟩ := t
  have h : varN n = false := h
  show (if varN n then sub1 u n else T.mk n (subL u us)) = _
  rw [h, if_neg Bool.false_ne_true, subL_map]
  rfl
theorem sub_name {u : List (List UInt8 × T)} {t : T} (h : varN t.name = false) : (sub u t).name = t.name := by rw [sub_fun h]; rfl
theorem sub_args {u : List (List UInt8 × T)} {t : T} (h : varN t.name = false) : (sub u t).args = t.args.map (sub u) := by rw [sub_fun h]; rfl
theorem var_args {t : T} (h : okT t = true) (hv : varN t.name = true) : t.args = [] := by
  rw [okT_eq, hv, if_pos rfl] at h
  exact List.isEmpty_iff.1 h

/-! ### The path ordering is stable -/
/-! ### Sums over variables -/
def sumV (f : List UInt8 → Int) : List (List UInt8) → Int
  | [] => 0
  | x :: l => f x + sumV f l
theorem symW_var {o : Ord'} (hv : validO o = true) {n : List UInt8} (h : o.syms.contains n = true) : o.var ≤ symW o n := by
  obtain ⟨k, hk, hlt⟩ := cov_some h
  obtain ⟨h1, h2, h3, h4⟩ := validO_spec hv
  have h5 := h4 k hlt
  have hlt' : k < o.ws.length := by omega
  have e : symW o n = o.ws.getD k 0 := by simp [symW, hk]
  rw [e]
  exact h5.1
theorem wt_var {o : Ord'} (hv : validO o = true) {t : T} (hc : covT o.syms t = true) : o.var ≤ wt o t := by
  have hc' := hc
  rw [covT_eq, Bool.and_eq_true] at hc'
  have hb := (wtL_bound hv hc'.2).1
  rw [wt_eq]
  cases hn : varN t.name with
  | true => simp only [if_true]; omega
  | false =>
    have hcn := hc'.1
    rw [hn, Bool.false_or] at hcn
    have := symW_var hv hcn
    simp only [Bool.false_eq_true, if_false]
    omega

/-! ### The weight ordering is stable -/
end Go.Proofs.YtnbjmmldjggkfaaGreat
/- SUBSTITUTIONS AS DATA: looked up and applied by the reference. -/
namespace Go.Proofs.YtnbjmmldjggkfaaGreat
open Go Go.RowKit Go.Proofs.YtnbjmmldjggkfaaGreat.Abs

set_option linter.unusedSimpArgs false
set_option linter.unusedVariables false
set_option maxHeartbeats 1000000

abbrev bc (p : List UInt8 × T) : List A := [sv p.1, sv p.2.name, .sl 2 (p.2.args.map tcells)]
abbrev sbs (u : List (List UInt8 × T)) : A := .sl 3 (u.map bc)
abbrev sb (u : List (List UInt8 × T)) : A := .agg [sbs u]
theorem pLoadN_bc1 (p : List UInt8 × T) : pLoadN 2 (.elt (bc p) 1) = some (tm p.2) := rfl
theorem pLoadP_bc (p : List UInt8 × T) : pLoadP (.elt (bc p) 0) = some (sv p.1) := rfl
theorem pAdd_bc (p : List UInt8 × T) (n : Nat) : pAdd (.elt (bc p) 0) n = some (.elt (bc p) n) := by rw [pAdd_elt, Nat.zero_add]

/-- A substitution as it is drawn: of a small size. -/
def Sz (z : Nat) (u : List (List UInt8 × T)) : Prop := u.length ≤ z ∧ ∀ p ∈ u, p.1.length ≤ z ∧ tsz p.2 ≤ z
theorem l4Find_eq (u : List (List UInt8 × T)) (hl : u.length ≤ 1048576) (n : List UInt8) : (look u n = none ∧ G 107 [sb u, sv n] = some (vi (-1), [])) ∨ ∃ k, ∃ h : k < u.length, look u n = some u[k].2 ∧ G 107 [sb u, sv n] = some (vi (k : Nat), []) := by
  have key := upto (P := fun i => (look (u.drop i) n = none ∧ L107_0 (sv n) (vi i) (sbs u) = some (vi (-1), [])) ∨ ∃ k, ∃ h : k < u.length, look (u.drop i) n = some u[k].2 ∧ L107_0 (sv n) (vi i) (sbs u) = some (vi (k : Nat), [])) (n := u.length) ?_ ?_ 0 (Nat.zero_le _)
  · rw [g107]
    exact key
  · left
    rw [List.drop_length, l107_0]
    exact ⟨rfl, by simp -implicitDefEqProofs only [evs, Nat.reduceAdd, reduceIte, ]⟩
  · intro i hi ih
    have hlt : (i : Int) < ((u.length : Nat) : Int) := by omega
    have h5 := add_one hi (by show u.length ≤ 9223372036854775807; omega)
    rw [l107_0, drop_cons hi, look]
    by_cases he : u[i].1 = n
    · right
      rw [if_pos he]
      exact ⟨i, hi, rfl, by simp -implicitDefEqProofs only [evs, Nat.reduceAdd, reduceIte, hlt, pIndexAddr_map hi, pAdd_bc, pLoadP_bc, he]⟩
    · rw [if_neg he]
      rcases ih with ⟨h1, h2⟩ | ⟨k, hk, h1, h2⟩
      · left
        exact ⟨h1, by simp -implicitDefEqProofs only [evs, Nat.reduceAdd, reduceIte, hlt, pIndexAddr_map hi, pAdd_bc, pLoadP_bc, he, h5, h2]⟩
      · right
        exact ⟨k, hk, h1, by simp -implicitDefEqProofs only [evs, Nat.reduceAdd, reduceIte, hlt, pIndexAddr_map hi, pAdd_bc, pLoadP_bc, he, h5, h2]⟩
theorem l4Apply_eq (u : List (List UInt8 × T)) (hu : Sz 1048576 u) (t : T) : tsz t ≤ 1048576 → G 68 [sb u, tm t] = some (tm (sub u t), []) := by
  refine T.ind (p := fun t => tsz t ≤ 1048576 → G 68 [sb u, tm t] = some (tm (sub u t), [])) ?_ t
  intro t ih hs
  have h := hs
  rw [tsz_eq] at h
  have e1 := l2Var_eq t.name (by show t.name.length ≤ 9223372036854775807; omega)
  rw [g68]
  cases hv : varN t.name <;> rw [hv] at e1
  · have key := (upto (P := fun i => L68_0 (vi i) (sbs u) (sv t.name) (tms t.args) (sv []) (sv t.name) [] (((t.args.map (sub u)).take i).map tcells) = some (tm (sub u t), [])) (n := t.args.length) ?_ ?_ 0 (Nat.zero_le _))
    · simp only [Int.natCast_zero, List.take_zero, List.map_nil] at key
      simp -implicitDefEqProofs only [evs, Nat.reduceAdd, reduceIte, e1, key]
    · rw [l68_0, List.take_of_length_le (by rw [List.length_map]; omega), sub_fun hv]
      simp -implicitDefEqProofs only [evs, Nat.reduceAdd, reduceIte, ]
      rfl
    · intro i hi ih'
      have hlt : (i : Int) < ((t.args.length : Nat) : Int) := by omega
      have h5 := add_one hi (by show t.args.length ≤ 9223372036854775807; omega)
      have e2 := ih t.args[i] (List.getElem_mem _) (by have := tsz_mem (List.getElem_mem hi); omega)
      have hf : pFit (i + 1) 40 = true := pF40 (by omega)
      have hi2 : i < (t.args.map (sub u)).length := by rw [List.length_map]; exact hi
      have hl : (((t.args.map (sub u)).take i).map tcells).length = i := by rw [List.length_map, List.length_take, List.length_map]; omega
      have ha : rApp (((t.args.map (sub u)).take i).map tcells) [[sv (sub u t.args[i]).name, tms (sub u t.args[i]).args]] = ((t.args.map (sub u)).take (i + 1)).map tcells := by
        rw [show [sv (sub u t.args[i]).name, tms (sub u t.args[i]).args] = tcells (sub u t.args[i]) from (tcells_eq _).symm, List.take_add_one, List.getElem?_eq_getElem hi2, List.map_append, List.getElem_map]
        rfl
      generalize ((t.args.map (sub u)).take i).map tcells = R at *
      rw [l68_0]
      simp -implicitDefEqProofs only [evs, Nat.reduceAdd, reduceIte, hlt, pIndexAddr_map hi, pLoadN_tcells, e2, hl, hf, ha, h5, ih']
  · rw [sub_var hv, sub1]
    rcases l4Find_eq u hu.1 t.name with ⟨h1, h2⟩ | ⟨k, hk, h1, h2⟩
    · rw [h1]
      simp -implicitDefEqProofs only [evs, Nat.reduceAdd, reduceIte, e1, h2]
      rfl
    · rw [h1]
      have hm := hu.2 _ (List.getElem_mem hk)
      have e3 := own_eq u[k].2 hm.2
      have hk0 : (0 : Int) ≤ ((k : Nat) : Int) := by omega
      simp -implicitDefEqProofs only [evs, Nat.reduceAdd, reduceIte, e1, h2, hk0, pIndexAddr_map hk, pAdd_bc, pLoadN_bc1, e3, Option.getD_some]
theorem look_mem : ∀ {u : List (List UInt8 × T)} {n : List UInt8} {r : T}, look u n = some r → ∃ p ∈ u, p.2 = r
  | p :: u, n, r, h => by
    rw [look] at h
    by_cases e : p.1 = n
    · rw [if_pos e] at h
      cases h
      exact ⟨p, by simp, rfl⟩
    · rw [if_neg e] at h
      obtain ⟨q, hq, h⟩ := look_mem h
      exact ⟨q, by simp [hq], h⟩
theorem sub_size {u : List (List UInt8 × T)} {Z : Nat} (hZ : 1 ≤ Z) (hu : ∀ p ∈ u, tsz p.2 ≤ Z) : ∀ t : T, tsz (sub u t) ≤ tsz t * Z := by
  refine T.ind fun t ih => ?_
  have hmul : ∀ n : Nat, n ≤ n * Z := fun n => Nat.le_mul_of_pos_right n hZ
  cases hv : varN t.name
  · have hL : ∀ ts : List T, (∀ v ∈ ts, tsz (sub u v) ≤ tsz v * Z) → tszL (ts.map (sub u)) ≤ tszL ts * Z := by
      intro ts
      induction ts with
      | nil => intro _; simp [tszL]
      | cons v vs ih2 =>
        intro h
        have h1 := h v (by simp)
        have h2 := ih2 fun w hw => h w (by simp [hw])
        simp only [List.map_cons, tszL, Nat.add_mul]
        omega
    have h1 := hL t.args ih
    have h2 := hmul t.name.length
    have h3 := hmul t.args.length
    rw [tsz_eq t, tsz_eq (sub u t), sub_name hv, sub_args hv, List.length_map, Nat.add_mul, Nat.add_mul]
    omega
  · rw [sub_var hv, sub1]
    have h1 : 1 ≤ t.name.length := by
      cases hn : t.name with
      | nil => rw [hn] at hv; cases hv
      | cons c r => simp
    have h2 := tsz_eq t
    cases hlk : look u t.name with
    | none =>
      have := hmul t.name.length
      show tsz (.mk t.name []) ≤ _
      rw [tsz_mk, h2, Nat.add_mul, Nat.add_mul]
      simp only [List.length_nil, tszL]
      omega
    | some r =>
      obtain ⟨p, hp, rfl⟩ := look_mem hlk
      have h3 := hu p hp
      show tsz p.2 ≤ _
      have h4 : 1 * Z ≤ tsz t * Z := Nat.mul_le_mul_right Z (by omega)
      omega
end Go.Proofs.YtnbjmmldjggkfaaGreat
/- MATCHING AND REWRITING. Plain. -/
namespace Go.Proofs.YtnbjmmldjggkfaaGreat
open Go Go.RowKit Go.Proofs.YtnbjmmldjggkfaaGreat.Abs

set_option linter.unusedSimpArgs false
set_option linter.unusedVariables false
set_option maxHeartbeats 1000000

abbrev Sub' := List (List UInt8 × T)

/-! ### Matching -/
mutual
/-- A match, found from left to right. -/
noncomputable def mt (m : Sub') (p : T) (t : T) : Option Sub' :=
  match p with
  | .mk n us => if varN n then (match look m n with | some r => if dq r t then some m else none | none => some (m ++ [(n, t)]))
      else if n = t.name ∧ us.length = t.args.length then mtL m us t.args else none
termination_by structural p
noncomputable def mtL (m : Sub') (ps : List T) (ts : List T) : Option Sub' :=
  match ps with
  | [] => some m
  | u :: us => (match ts with | [] => some m | t :: ts => (mt m u t).bind fun m' => mtL m' us ts)
termination_by structural ps
end
theorem mt_var {m : Sub'} {p t : T} (h : varN p.name = true) : mt m p t = (match look m p.name with | some r => if dq r t then some m else none | none => some (m ++ [(p.name, t)])) := by
  obtain ⟨n, us⟩ := p
  have h : varN n = true := h
  simp only [mt, h, if_true, T.name]
theorem mt_fun {m : Sub'} {p t : T} (h : varN p.name = false) : mt m p t = if p.name = t.name ∧ p.args.length = t.args.length then mtL m p.args t.args else none := by
  obtain ⟨n, us⟩ := p
  have h : varN n = false := h
  simp only [mt, h, Bool.false_eq_true, if_false]
  rfl

theorem look_append : ∀ (u v : Sub') (n : List UInt8), look (u ++ v) n = (match look u n with | some r => some r | none => look v n)
  | [], v, n => rfl
  | p :: u, v, n => by
    rw [List.cons_append, look, look]
    by_cases h : p.1 = n
    · rw [if_pos h, if_pos h]
    · rw [if_neg h, if_neg h]; exact look_append u v n
theorem look_none {u : Sub'} {n : List UInt8} : look u n = none ↔ ∀ p ∈ u, p.1 ≠ n := by
  induction u with
  | nil => simp [look]
  | cons p u ih =>
    rw [look]
    by_cases h : p.1 = n
    · rw [if_pos h]; simp [h]
    · rw [if_neg h, ih]; simp [h]
theorem look_in : ∀ {u : Sub'} {n : List UInt8} {r : T}, look u n = some r → (n, r) ∈ u
  | p :: u, n, r, h => by
    rw [look] at h
    by_cases e : p.1 = n
    · rw [if_pos e] at h; cases h; rw [← e]; simp
    · rw [if_neg e] at h; exact List.mem_cons_of_mem _ (look_in h)

/-- What a match holds: names of variables, each once; what they stand for is one of these. -/
def MOk (p : T → Prop) (m : Sub') : Prop := (m.map Prod.fst).Nodup ∧ (∀ q ∈ m, varN q.1 = true ∧ p q.2)
theorem MOk.nil (p : T → Prop) : MOk p [] := ⟨by simp, fun q h => by cases h⟩
theorem MOk.push {p : T → Prop} {m : Sub'} (h : MOk p m) {n : List UInt8} {t : T} (hn : varN n = true) (ht : p t) (hl : look m n = none) : MOk p (m ++ [(n, t)]) := by
  refine ⟨?_, fun q hq => ?_⟩
  · rw [List.map_append, List.nodup_append]
    refine ⟨h.1, by simp, fun a ha b hb => ?_⟩
    simp only [List.map_cons, List.map_nil, List.mem_singleton] at hb
    subst hb
    obtain ⟨q, hq, rfl⟩ := List.mem_map.1 ha
    exact look_none.1 hl q hq
  · rcases List.mem_append.1 hq with hq | hq
    · exact h.2 q hq
    · simp only [List.mem_singleton] at hq; subst hq; exact ⟨hn, ht⟩
theorem mt_ok {p : T → Prop} (hp : ∀ t, p t → ∀ u ∈ t.args, p u) : ∀ (a : T) {m m' : Sub'} {t : T}, MOk p m → p t → mt m a t = some m' → MOk p m' := by
  refine T.ind (p := fun a => ∀ {m m' : Sub'} {t : T}, MOk p m → p t → mt m a t = some m' → MOk p m') fun a ih => ?_
  intro m m' t hm ht h
  cases hv : varN a.name with
  | true =>
    rw [mt_var hv] at h
    split at h
    · split at h
      · cases h; exact hm
      · cases h
    · rename_i hl
      cases h; exact hm.push hv ht hl
  | false =>
    rw [mt_fun hv] at h
    split at h
    · have key : ∀ (us : List T) (ts : List T) {m m' : Sub'}, (∀ u ∈ us, u ∈ a.args) → (∀ u ∈ ts, p u) → MOk p m → mtL m us ts = some m' → MOk p m' := by
        intro us
        induction us with
        | nil => intro ts m m' _ _ hm h; simp only [mtL, Option.some.injEq] at h; exact h ▸ hm
        | cons u us ih2 =>
          intro ts m m' hu hts hm h
          cases ts with
          | nil => simp only [mtL, Option.some.injEq] at h; exact h ▸ hm
          | cons s ts =>
            simp only [mtL] at h
            obtain ⟨m1, h1, h2⟩ := Option.bind_eq_some_iff.1 h
            exact ih2 ts (fun x hx => hu x (by simp [hx])) (fun x hx => hts x (by simp [hx])) (ih u (hu u (by simp)) hm (hts s (by simp)) h1) h2
      exact key a.args t.args (fun _ h => h) (hp t ht) hm h
    · cases h

/-! ### Matches as substitutions: in order, without what stands for itself -/
def putS (s : Sub') (n : List UInt8) (t : T) : Sub' := s.takeWhile (fun p => sLt p.1 n) ++ (n, t) :: s.dropWhile (fun p => sLt p.1 n)
def putI (s : Sub') (n : List UInt8) (t : T) : Sub' := if t.name = n then s else putS s n t
def pairsS (m : Sub') : Sub' := m.foldl (fun s p => putI s p.1 p.2) []
theorem sLt_irr (a : List UInt8) : sLt a a = false := by
  unfold sLt
  cases h : Op.bytesLess a a with
  | false => rfl
  | true =>
    exfalso
    induction a with
    | nil => simp [Op.bytesLess] at h
    | cons c r ih => simp [Op.bytesLess] at h; exact ih h
theorem look_putS (n : List UInt8) (t : T) (x : List UInt8) : ∀ s : Sub', look (putS s n t) x = if n = x then some t else look s x := by
  intro s
  unfold putS
  induction s with
  | nil => simp [look]
  | cons p s ih =>
    cases hl : sLt p.1 n with
    | true =>
      rw [List.takeWhile_cons_of_pos (p := fun p : List UInt8 × T => sLt p.1 n) hl, List.dropWhile_cons_of_pos (p := fun p : List UInt8 × T => sLt p.1 n) hl, List.cons_append, look, ih, look]
      by_cases h1 : p.1 = x
      · rw [if_pos h1, if_pos h1]
        have : n ≠ x := fun e => by rw [h1, ← e, sLt_irr] at hl; cases hl
        rw [if_neg this]
      · rw [if_neg h1, if_neg h1]
    | false =>
      rw [List.takeWhile_cons_of_neg (p := fun p : List UInt8 × T => sLt p.1 n) (by simp [hl]), List.dropWhile_cons_of_neg (p := fun p : List UInt8 × T => sLt p.1 n) (by simp [hl]), List.nil_append, look]
theorem look_putI (s : Sub') (n : List UInt8) (t : T) (x : List UInt8) : look (putI s n t) x = if n = x ∧ t.name ≠ x then some t else look s x := by
  unfold putI
  by_cases h : t.name = n
  · rw [if_pos h]
    by_cases h2 : n = x
    · rw [if_neg (fun h3 => h3.2 (h.trans h2))]
    · rw [if_neg (fun h3 => h2 h3.1)]
  · rw [if_neg h, look_putS]
    by_cases h2 : n = x
    · rw [if_pos h2, if_pos ⟨h2, fun e => h (e.trans h2.symm)⟩]
    · rw [if_neg h2, if_neg (fun h3 => h2 h3.1)]
theorem look_pairs (x : List UInt8) : ∀ (m s : Sub'), (m.map Prod.fst).Nodup → look (m.foldl (fun s p => putI s p.1 p.2) s) x = (match look m x with | some t => if t.name = x then look s x else some t | none => look s x)
  | [], s, _ => rfl
  | p :: m, s, hn => by
    rw [List.map_cons, List.nodup_cons] at hn
    rw [List.foldl_cons, look_pairs x m _ hn.2, look]
    by_cases h : p.1 = x
    · have : look m x = none := look_none.2 fun q hq e => hn.1 (by rw [h, ← e]; exact List.mem_map_of_mem hq)
      rw [this, if_pos h]
      show look (putI s p.1 p.2) x = if p.2.name = x then look s x else some p.2
      rw [look_putI]
      by_cases h2 : p.2.name = x
      · rw [if_pos h2, if_neg (fun h3 => h3.2 h2)]
      · rw [if_neg h2, if_pos ⟨h, h2⟩]
    · rw [if_neg h]
      have e : look (putI s p.1 p.2) x = look s x := by rw [look_putI, if_neg (fun h3 => h h3.1)]
      rw [e]
theorem sub1_pairs {m : Sub'} (hm : MOk (fun t => okT t = true) m) {x : List UInt8} (hx : varN x = true) : sub1 (pairsS m) x = sub1 m x := by
  unfold sub1 pairsS
  rw [look_pairs x m [] hm.1]
  cases h : look m x with
  | none => rfl
  | some t =>
    show Option.getD (if t.name = x then look [] x else some t) _ = t
    by_cases h2 : t.name = x
    · rw [if_pos h2]
      have hk := (hm.2 _ (look_in h)).2
      have ha := var_args hk (by rw [h2]; exact hx)
      show T.mk x [] = t
      rw [← h2, ← ha, T.eta]
    · rw [if_neg h2]; rfl
theorem sub_congr {u v : Sub'} (h : ∀ x, varN x = true → sub1 u x = sub1 v x) : ∀ t : T, sub u t = sub v t := by
  refine T.ind fun t ih => ?_
  cases hv : varN t.name with
  | true => rw [sub_var hv, sub_var hv, h _ hv]
  | false => rw [sub_fun hv, sub_fun hv, List.map_congr_left ih]
theorem sub_pairs {m : Sub'} (hm : MOk (fun t => okT t = true) m) (t : T) : sub (pairsS m) t = sub m t := sub_congr (fun _ hx => sub1_pairs hm hx) t
theorem okT_mk (n : List UInt8) (h : varN n = true) : okT (.mk n []) = true := by rw [okT_eq]; show (if varN n then _ else _) = true; rw [if_pos h]; rfl
theorem sub_ok {u : Sub'} (hu : ∀ q ∈ u, okT q.2 = true) : ∀ t : T, okT t = true → okT (sub u t) = true := by
  refine T.ind fun t ih hk => ?_
  cases hv : varN t.name with
  | true =>
    rw [sub_var hv, sub1]
    cases h : look u t.name with
    | none => exact okT_mk _ hv
    | some r => exact hu _ (look_in h)
  | false =>
    have hk' := hk
    rw [okT_eq, hv, if_neg Bool.false_ne_true, Bool.and_eq_true, Bool.and_eq_true, okTL_all] at hk
    rw [okT_eq, sub_name hv, hv, if_neg Bool.false_ne_true, sub_args hv, Bool.and_eq_true, Bool.and_eq_true, okTL_all]
    refine ⟨hk.1, by simpa using hk.2.1, ?_⟩
    rw [List.all_map, List.all_eq_true]
    intro a ha
    exact ih a ha (List.all_eq_true.1 hk.2.2 a ha)

/-! ### One step of rewriting -/
def lhsT (r : T) : T := r.args.getD 0 (.mk [] [])
def rhsT (r : T) : T := r.args.getD 1 (.mk [] [])
noncomputable def rootS : List T → T → Option T
  | [], _ => none
  | r :: rs, t => (match mt [] (lhsT r) t with | some m => some (sub m (rhsT r)) | none => rootS rs t)
mutual
/-- At the first place, arguments first. -/
noncomputable def once (rs : List T) (root : Bool) : T → Option T
  | .mk n us => (match onceL rs us with | some us' => some (.mk n us') | none => if root then rootS rs (.mk n us) else none)
noncomputable def onceL (rs : List T) : List T → Option (List T)
  | [] => none
  | t :: ts => (match once rs true t with | some t' => some (t' :: ts) | none => (onceL rs ts).map (t :: ·))
end
theorem once_eq (rs : List T) (root : Bool) (t : T) : once rs root t = (match onceL rs t.args with | some us => some (.mk t.name us) | none => if root then rootS rs t else none) := by cases t; rfl

/-- The subterm at a place; the term with another one there. -/
def atT : List Nat → T → T
  | [], t => t
  | i :: p, t => atT p (t.args.getD i (.mk [] []))
def withT (s : T) : List Nat → T → T
  | [], _ => s
  | i :: p, t => .mk t.name (t.args.set i (withT s p (t.args.getD i (.mk [] []))))
mutual
/-- All places, arguments first. -/
def postT : T → List (List Nat)
  | .mk _ us => postL 0 us ++ [[]]
def postL (i : Nat) : List T → List (List Nat)
  | [] => []
  | t :: ts => (postT t).map (i :: ·) ++ postL (i + 1) ts
end
theorem postT_eq (t : T) : postT t = postL 0 t.args ++ [[]] := by cases t; rfl
theorem findSome_map {α β γ : Type} (f : β → Option γ) (g : α → β) : ∀ l : List α, (l.map g).findSome? f = l.findSome? (fun a => f (g a))
  | [] => rfl
  | a :: l => by rw [List.map_cons, List.findSome?_cons, List.findSome?_cons, findSome_map f g l]
theorem findSome_congr {α β : Type} {f g : α → Option β} : ∀ {l : List α}, (∀ a ∈ l, f a = g a) → l.findSome? f = l.findSome? g
  | [], _ => rfl
  | a :: l, h => by rw [List.findSome?_cons, List.findSome?_cons, h a (by simp), findSome_congr fun b hb => h b (by simp [hb])]
theorem findSome_omap {α β γ : Type} (f : α → Option β) (g : β → γ) : ∀ l : List α, l.findSome? (fun a => (f a).map g) = (l.findSome? f).map g
  | [] => rfl
  | a :: l => by
    rw [List.findSome?_cons, List.findSome?_cons]
    cases h : f a with
    | none => exact findSome_omap f g l
    | some b => rfl
/-- The search through the places. -/
noncomputable def stepAt (rs : List T) (root : Bool) (t : T) (p : List Nat) : Option T := if p = [] ∧ root = false then none else (rootS rs (atT p t)).map fun s => withT s p t
theorem once_post (rs : List T) : ∀ (t : T) (root : Bool), (postT t).findSome? (stepAt rs root t) = once rs root t := by
  refine T.ind fun t ih root => ?_
  have hL : ∀ (us : List T) (i : Nat), (∀ u ∈ us, u ∈ t.args) → t.args.drop i = us → (postL i us).findSome? (stepAt rs root t) = (onceL rs us).map fun us' => .mk t.name (t.args.take i ++ us') := by
    intro us
    induction us with
    | nil => intro i _ _; rfl
    | cons u us ih2 =>
      intro i hu hd
      have hi : i < t.args.length := by
        rcases Nat.lt_or_ge i t.args.length with h | h
        · exact h
        · rw [List.drop_of_length_le h] at hd; cases hd
      have hui : t.args.getD i (.mk [] []) = u := by
        rw [List.getD_eq_getElem?_getD]
        have := congrArg (fun l => l[0]?) hd
        simp only [List.getElem?_drop, Nat.add_zero, List.getElem?_cons_zero] at this
        rw [this]; rfl
      have hd2 : t.args.drop (i + 1) = us := by
        have := congrArg (fun l => l.drop 1) hd
        simpa [List.drop_drop, Nat.add_comm] using this
      rw [postL, List.findSome?_append, findSome_map, onceL]
      have e1 : (postT u).findSome? (fun p => stepAt rs root t (i :: p)) = (once rs true u).map fun u' => .mk t.name (t.args.set i u') := by
        rw [← ih u (hu u (by simp)) true, ← findSome_omap]
        refine findSome_congr fun p _ => ?_
        unfold stepAt
        rw [if_neg (by simp), if_neg (by simp), atT, hui]
        cases rootS rs (atT p u) with
        | none => rfl
        | some s => show some (withT s (i :: p) t) = some (T.mk t.name (t.args.set i (withT s p u))); rw [withT, hui]
      rw [e1]
      cases ho : once rs true u with
      | some u' =>
        show some (T.mk t.name (t.args.set i u')) = some (T.mk t.name (t.args.take i ++ u' :: us))
        rw [List.set_eq_take_append_cons_drop, if_pos hi, hd2]
      | none =>
        show (postL (i + 1) us).findSome? (stepAt rs root t) = _
        rw [ih2 (i + 1) (fun x hx => hu x (by simp [hx])) hd2]
        cases onceL rs us with
        | none => rfl
        | some us' =>
          show some (T.mk t.name (t.args.take (i + 1) ++ us')) = some (T.mk t.name (t.args.take i ++ u :: us'))
          have : t.args.take (i + 1) = t.args.take i ++ [u] := by
            rw [List.take_add_one]
            congr 1
            have h0 : t.args[i]? = some u := by
              have := congrArg (fun l => l[0]?) hd
              simpa using this
            rw [h0]; rfl
          rw [this, List.append_assoc]; rfl
  rw [postT_eq, List.findSome?_append, hL t.args 0 (fun _ h => h) rfl, once_eq]
  cases onceL rs t.args with
  | some us => rfl
  | none =>
    show ([[]] : List (List Nat)).findSome? (stepAt rs root t) = (if root = true then rootS rs t else none)
    rw [List.findSome?_cons]
    unfold stepAt
    cases root with
    | false => rfl
    | true =>
      rw [if_neg (by simp), if_pos rfl]
      rw [atT]
      cases rootS rs t <;> rfl

/-- Rules: terms with two valid arguments. -/
def RulesOk (rs : List T) : Prop := ∀ r ∈ rs, okT (lhsT r) = true ∧ okT (rhsT r) = true
theorem rootS_ok {t : T} (ht : okT t = true) : ∀ {rs : List T} {u : T}, RulesOk rs → rootS rs t = some u → okT u = true
  | r :: rs, u, hr, h => by
    rw [rootS] at h
    split at h
    · rename_i m hm
      cases h
      have hM := mt_ok (p := fun t => okT t = true) (fun t ht u hu => by
        cases hv : varN t.name with
        | true => rw [var_args ht hv] at hu; cases hu
        | false =>
          rw [okT_eq, hv, if_neg Bool.false_ne_true, Bool.and_eq_true, Bool.and_eq_true, okTL_all] at ht
          exact List.all_eq_true.1 ht.2.2 u hu) _ (MOk.nil _) ht hm
      exact sub_ok (fun q hq => (hM.2 q hq).2) _ (hr r (by simp)).2
    · exact rootS_ok ht (fun q hq => hr q (by simp [hq])) h
theorem onceL_spec {rs : List T} : ∀ {us us' : List T}, onceL rs us = some us' → us'.length = us.length ∧ ∀ p : T → Prop, (∀ u ∈ us, p u) → (∀ u ∈ us, ∀ u', once rs true u = some u' → p u') → ∀ u ∈ us', p u
  | t :: ts, us', h => by
    rw [onceL] at h
    split at h
    · rename_i t' ht
      cases h
      refine ⟨by simp, fun p h1 h2 u hu => ?_⟩
      rcases List.mem_cons.1 hu with rfl | hu
      · exact h2 t (by simp) _ ht
      · exact h1 u (by simp [hu])
    · rw [Option.map_eq_some_iff] at h
      obtain ⟨r, h3, rfl⟩ := h
      obtain ⟨g1, g2⟩ := onceL_spec h3
      refine ⟨by simp [g1], fun p h1 h2 u hu => ?_⟩
      rcases List.mem_cons.1 hu with rfl | hu
      · exact h1 _ (by simp)
      · exact g2 p (fun u hu => h1 u (by simp [hu])) (fun u hu => h2 u (by simp [hu])) u hu
theorem once_ok {rs : List T} (hr : RulesOk rs) : ∀ (t : T) {u : T}, okT t = true → once rs true t = some u → okT u = true := by
  refine T.ind (p := fun t => ∀ {u : T}, okT t = true → once rs true t = some u → okT u = true) fun t ih => ?_
  intro u ht h
  rw [once_eq] at h
  split at h
  · rename_i us ho
    cases h
    obtain ⟨g1, g2⟩ := onceL_spec ho
    cases hv : varN t.name with
    | true =>
      rw [var_args ht hv] at ho; cases ho
    | false =>
      have ha := okT_args ht
      rw [okT_eq, hv, if_neg Bool.false_ne_true, Bool.and_eq_true, Bool.and_eq_true] at ht
      rw [okT_eq]
      show (if varN t.name then _ else symN t.name && (decide (us.length ≤ 4) && okTL us)) = true
      rw [hv, if_neg Bool.false_ne_true, Bool.and_eq_true, Bool.and_eq_true, g1, okTL_all, List.all_eq_true]
      exact ⟨ht.1, ht.2.1, g2 _ ha fun u hu u' hu' => ih u hu (ha u hu) hu'⟩
  · exact rootS_ok ht hr h

/-- Rewriting till nothing applies. -/
noncomputable def rwN (rs : List T) (root : Bool) : Nat → Nat → T → Option (T × Nat)
  | 0, _, _ => none
  | k + 1, n, t => (match once rs root t with
    | none => some (t, n)
    | some u => if k = 0 ∨ smallT u = false then none else rwN rs root k (n + 1) u)
end Go.Proofs.YtnbjmmldjggkfaaGreat
/- COPIES OF TERMS. -/
namespace Go.Proofs.YtnbjmmldjggkfaaGreat
open Go Go.RowKit Go.Proofs.YtnbjmmldjggkfaaGreat.Abs

set_option linter.unusedSimpArgs false
set_option linter.unusedVariables false
set_option maxHeartbeats 1000000

/-! ### Copies -/
theorem copyTerms_eq (ts : List T) (hl : ts.length ≤ 1048576) (ih : ∀ t ∈ ts, G 46 [tm t] = some (tm t, [])) : C89_0 (tms ts) = some (.top, [tms ts]) := by
  rw [c89_0]
  by_cases h0 : ts.length = 0
  · have : ts = [] := List.length_eq_zero_iff.1 h0
    subst this
    simp -implicitDefEqProofs only [evs, Nat.reduceAdd, reduceIte, Int.natCast_zero]
    rfl
  have hz : ¬ ((ts.length : Nat) : Int) = 0 := by omega
  have hm := pMake_len (b := 40) (n := ts.length) (by omega) hl
  have key := (upto (P := fun i => L89c0_0 (tms ts) (vi (ts.length : Nat)) (vi i) (part tcells [sv [], .sl 2 []] ts i) = some (.top, [tms ts])) (n := ts.length) ?_ ?_ 0 (Nat.zero_le _))
  · simp only [Int.natCast_zero, ← part_zero] at key
    simp -implicitDefEqProofs only [evs, Nat.reduceAdd, reduceIte, hz, hm, key]
  · rw [l89c0_0, part_end]
    simp -implicitDefEqProofs only [evs, Nat.reduceAdd, reduceIte]
  · intro i hi ih'
    have hlt : (i : Int) < ((ts.length : Nat) : Int) := by omega
    have h1 := part_length (f := tcells) (z := [sv [], .sl 2 []]) (Nat.le_of_lt hi)
    have h2 : pIx (part tcells [sv [], .sl 2 []] ts i).length (vi i) = some i := pIx_lt (by omega)
    have h4 := part_set (f := tcells) (z := [sv [], .sl 2 []]) hi
    rw [tcells_eq] at h4
    have h5 := add_one hi (Nat.le_trans hl (by decide))
    have e1 : G 46 [A.agg [sv ts[i].name, tms ts[i].args]] = _ := ih ts[i] (List.getElem_mem _)
    rw [l89c0_0]
    simp -implicitDefEqProofs only [evs, Nat.reduceAdd, reduceIte, hlt, pIndexAddr_map hi, pLoadN_tcells, e1, List.getElem?_cons_zero, h2, part_get hi, cOver_2, h4, h5, ih']

theorem copyTerm_eq (t : T) : tsz t ≤ 1048576 → G 46 [tm t] = some (tm t, []) := by
  refine T.ind (p := fun t => tsz t ≤ 1048576 → G 46 [tm t] = some (tm t, [])) ?_ t
  intro t ih h
  rw [tsz_eq] at h
  have e1 := copyTerms_eq t.args (by omega) fun u hu => ih u hu (by have := tsz_mem hu; omega)
  rw [g46]
  simp -implicitDefEqProofs only [evs, Nat.reduceAdd, reduceIte, e1]
theorem copyTermC_eq (t : T) (h : tsz t ≤ 1048576) : C46_0 (sv t.name) (tms t.args) = some (.top, [sv t.name, tms t.args]) := by
  rw [tsz_eq] at h
  have e1 := copyTerms_eq t.args (by omega) fun u hu => copyTerm_eq u (by have := tsz_mem hu; omega)
  rw [c46_0]
  simp -implicitDefEqProofs only [evs, Nat.reduceAdd, reduceIte, e1]
end Go.Proofs.YtnbjmmldjggkfaaGreat
/- MATCHING: the reference's rows and the program's map. -/
namespace Go.Proofs.YtnbjmmldjggkfaaGreat
open Go Go.RowKit Go.Proofs.YtnbjmmldjggkfaaGreat.Abs

set_option linter.unusedSimpArgs false
set_option linter.unusedVariables false
set_option maxHeartbeats 1000000

theorem pNo_false : pNo (vb false) = some () := rfl
theorem sl259 : slL [259] [[]] = [.sl 259 []] := rfl
theorem pF56 {n : Nat} (h : n ≤ 4194304) : pFit n 56 = true := by
  unfold pFit
  exact decide_eq_true ⟨by omega, by omega⟩

theorem mt_inv {p : T → Prop} (hp : ∀ t, p t → ∀ u ∈ t.args, p u) : ∀ (a : T) {m m' : Sub'} {t : T}, (∀ q ∈ m, p q.2) → p t → mt m a t = some m' → (∀ q ∈ m', p q.2) ∧ m'.length ≤ m.length + nodes a := by
  refine T.ind (p := fun a => ∀ {m m' : Sub'} {t : T}, (∀ q ∈ m, p q.2) → p t → mt m a t = some m' → (∀ q ∈ m', p q.2) ∧ m'.length ≤ m.length + nodes a) fun a ih => ?_
  intro m m' t hm ht h
  have hn := nodes_eq a
  cases hv : varN a.name with
  | true =>
    rw [mt_var hv] at h
    split at h
    · split at h
      · cases h; exact ⟨hm, by omega⟩
      · cases h
    · cases h
      refine ⟨fun q hq => ?_, by rw [List.length_append, List.length_singleton]; omega⟩
      rcases List.mem_append.1 hq with hq | hq
      · exact hm q hq
      · simp only [List.mem_singleton] at hq; subst hq; exact ht
  | false =>
    rw [mt_fun hv] at h
    split at h
    · have key : ∀ (us : List T) (ts : List T) {m m' : Sub'}, (∀ u ∈ us, u ∈ a.args) → (∀ u ∈ ts, p u) → (∀ q ∈ m, p q.2) → mtL m us ts = some m' → (∀ q ∈ m', p q.2) ∧ m'.length ≤ m.length + nodesL us := by
        intro us
        induction us with
        | nil => intro ts m m' _ _ hm h; simp only [mtL, Option.some.injEq] at h; exact h ▸ ⟨hm, by omega⟩
        | cons u us ih2 =>
          intro ts m m' hu hts hm h
          have e : nodesL (u :: us) = nodes u + nodesL us := rfl
          cases ts with
          | nil => simp only [mtL, Option.some.injEq] at h; exact h ▸ ⟨hm, by omega⟩
          | cons s ts =>
            simp only [mtL] at h
            obtain ⟨m1, h1, h2⟩ := Option.bind_eq_some_iff.1 h
            obtain ⟨i1, i2⟩ := ih u (hu u (by simp)) hm (hts s (by simp)) h1
            obtain ⟨j1, j2⟩ := ih2 ts (fun x hx => hu x (by simp [hx])) (fun x hx => hts x (by simp [hx])) i1 h2
            exact ⟨j1, by omega⟩
      obtain ⟨i1, i2⟩ := key a.args t.args (fun _ h => h) (hp t ht) hm h
      exact ⟨i1, by omega⟩
    · cases h

/-- What a match of rows comes to. -/
def MR (o : Option Out) (r : Option Sub') : Prop := match r with
  | some m' => o = some (.top, [vb true, .sl 259 (m'.map bc)])
  | none => ∃ R, o = some (.top, [vb false, .sl 259 R])
theorem pRowP_bc {m : Sub'} {i : Nat} (hi : i < m.length) : pRowP (m.map bc) i 0 = some (sv m[i].1) := by unfold pRowP; simp [hi]
theorem pRowN_bc {m : Sub'} {i : Nat} (hi : i < m.length) : pRowN (m.map bc) i 1 2 = some (tm m[i].2) := by unfold pRowN; simp [hi]

/-- The sizes that are kept to. -/
def Tz (t : T) : Prop := tsz t ≤ 1048576
theorem Tz.args {t : T} (h : Tz t) : ∀ u ∈ t.args, Tz u := fun u hu => by
  have := tsz_mem hu
  unfold Tz at h ⊢
  rw [tsz_eq] at h
  omega
theorem Tz.wf {t : T} (h : Tz t) : twf t := twf_le t h


theorem l4Mc1_var (n : List UInt8) (x : A) (t : T) (ht : Tz t) (m : Sub') (hm : ∀ q ∈ m, Tz q.2) (hl : m.length ≤ 4000000) (hx : okA x = true) : MR (L135c1_0 (vi 0) (sv n) x (sv t.name) (tms t.args) (m.map bc)) (match look m n with | some r => if dq r t then some m else none | none => some (m ++ [(n, t)])) := by
  have key := upto (P := fun i => MR (L135c1_0 (vi i) (sv n) x (sv t.name) (tms t.args) (m.map bc)) (match look (m.drop i) n with | some r => if dq r t then some m else none | none => some (m ++ [(n, t)]))) (n := m.length) ?_ ?_ 0 (Nat.zero_le _)
  · exact key
  · rw [List.drop_length, l135c1_0]
    have hf := pF56 (n := m.length + 1) (by omega)
    show _ = _
    simp -implicitDefEqProofs only [evs, Nat.reduceAdd, reduceIte, hx, hf]
    rw [List.map_append]
    rfl
  · intro i hi ih
    have hlt : (i : Int) < ((m.length : Nat) : Int) := by omega
    have h5 := add_one hi (by show m.length ≤ 9223372036854775807; omega)
    have x1 : pIx m.length (vi ((i : Nat) : Int)) = some i := pIx_lt hi
    have x2 := pRowP_bc hi
    have x3 := pRowN_bc hi
    have e1 := l2Same_eq m[i].2 (hm _ (List.getElem_mem hi)).wf t ht.wf
    rw [l135c1_0, drop_cons hi, look]
    by_cases he : m[i].1 = n
    · rw [if_pos he]
      show MR _ (if dq m[i].2 t = true then some m else none)
      cases hd : dq m[i].2 t <;> rw [hd] at e1
      · rw [if_neg Bool.false_ne_true]
        refine ⟨m.map bc, ?_⟩
        simp -implicitDefEqProofs only [evs, Nat.reduceAdd, reduceIte, hlt, x1, x2, x3, he, e1]
      · rw [if_pos rfl]
        show _ = _
        simp -implicitDefEqProofs only [evs, Nat.reduceAdd, reduceIte, hlt, x1, x2, x3, he, e1]
    · rw [if_neg he]
      simp -implicitDefEqProofs only [evs, Nat.reduceAdd, reduceIte, hlt, x1, x2, x3, he, h5]
      exact ih
theorem l4Mc1_loop (a t : T) (ht : Tz t) (ha : Tz a) (hl : a.args.length = t.args.length) (m : Sub') (hm : ∀ q ∈ m, Tz q.2) (hk : m.length + nodesL a.args ≤ 4000000)
    (ih : ∀ u ∈ a.args, ∀ (s : T) (m : Sub'), Tz s → (∀ q ∈ m, Tz q.2) → m.length + nodes u ≤ 4000000 → MR (C135_1 (tm u) (tm s) (m.map bc)) (mt m u s)) :
    MR (L135c1_1 (vi 0) (sv a.name) (tms a.args) (sv t.name) (tms t.args) (m.map bc)) (mtL m a.args t.args) := by
  have ha' := ha
  unfold Tz at ha
  rw [tsz_eq] at ha
  have nd : ∀ i, i < a.args.length → nodesL (a.args.drop i) = nodesL a.args → True := fun _ _ _ => trivial
  have key2 := upto (P := fun i => ∀ m : Sub', (∀ q ∈ m, Tz q.2) → m.length + nodesL (a.args.drop i) ≤ 4000000 → MR (L135c1_2 (vi i) (sv a.name) (tms a.args) (sv t.name) (tms t.args) (m.map bc)) (mtL m (a.args.drop i) (t.args.drop i))) (n := a.args.length) ?_ ?_
  rotate_left
  · intro m hm hk
    rw [List.drop_length, l135c1_2]
    simp only [mtL]
    show _ = _
    simp -implicitDefEqProofs only [evs, Nat.reduceAdd, reduceIte, ]
  · intro i hi ih2 m hm hk
    have hi' : i < t.args.length := by omega
    have hlt : (i : Int) < ((a.args.length : Nat) : Int) := by omega
    have h5 := add_one hi (by show a.args.length ≤ 9223372036854775807; omega)
    have e : nodesL (a.args.drop i) = nodes a.args[i] + nodesL (a.args.drop (i + 1)) := by rw [drop_cons hi]; rfl
    have q := ih a.args[i] (List.getElem_mem _) t.args[i] m (ht.args _ (List.getElem_mem _)) hm (by omega)
    rw [drop_cons hi, drop_cons hi', l135c1_2]
    simp only [mtL]
    cases hq : mt m a.args[i] t.args[i] with
    | none =>
      rw [hq] at q
      obtain ⟨R, q⟩ := q
      refine ⟨[], ?_⟩
      simp -implicitDefEqProofs only [evs, Nat.reduceAdd, reduceIte, hlt, pIndexAddr_map hi, pIndexAddr_map hi', pLoadN_tcells, q, List.getElem?_cons_zero, pNo_false, sl259]
    | some m1 =>
      rw [hq] at q
      have q : C135_1 (tm a.args[i]) (tm t.args[i]) (m.map bc) = some (.top, [vb true, .sl 259 (m1.map bc)]) := q
      obtain ⟨i1, i2⟩ := mt_inv (p := Tz) (fun _ h => h.args) _ hm (ht.args _ (List.getElem_mem hi')) hq
      simp -implicitDefEqProofs only [evs, Nat.reduceAdd, reduceIte, hlt, pIndexAddr_map hi, pIndexAddr_map hi', pLoadN_tcells, q, List.getElem?_cons_zero, h5]
      exact ih2 m1 i1 (by omega)
  have e1 : ∀ (m : Sub') (i : Nat), L135c1_1 (vi i) (sv a.name) (tms a.args) (sv t.name) (tms t.args) (m.map bc) = L135c1_2 (vi i) (sv a.name) (tms a.args) (sv t.name) (tms t.args) (m.map bc) := fun m i => by
    rw [l135c1_1, l135c1_2]
  have := key2 0 (Nat.zero_le _) m hm hk
  rw [← e1] at this
  exact this

theorem l4Mc0_var (n : List UInt8) (x : A) (t : T) (ht : Tz t) (m : Sub') (hm : ∀ q ∈ m, Tz q.2) (hl : m.length ≤ 4000000) (hx : okA x = true) : MR (L135c0_0 (vi 0) (sv n) x (sv t.name) (tms t.args) (m.map bc)) (match look m n with | some r => if dq r t then some m else none | none => some (m ++ [(n, t)])) := by
  have key := upto (P := fun i => MR (L135c0_0 (vi i) (sv n) x (sv t.name) (tms t.args) (m.map bc)) (match look (m.drop i) n with | some r => if dq r t then some m else none | none => some (m ++ [(n, t)]))) (n := m.length) ?_ ?_ 0 (Nat.zero_le _)
  · exact key
  · rw [List.drop_length, l135c0_0]
    have hf := pF56 (n := m.length + 1) (by omega)
    show _ = _
    simp -implicitDefEqProofs only [evs, Nat.reduceAdd, reduceIte, hx, hf]
    rw [List.map_append]
    rfl
  · intro i hi ih
    have hlt : (i : Int) < ((m.length : Nat) : Int) := by omega
    have h5 := add_one hi (by show m.length ≤ 9223372036854775807; omega)
    have x1 : pIx m.length (vi ((i : Nat) : Int)) = some i := pIx_lt hi
    have x2 := pRowP_bc hi
    have x3 := pRowN_bc hi
    have e1 := l2Same_eq m[i].2 (hm _ (List.getElem_mem hi)).wf t ht.wf
    rw [l135c0_0, drop_cons hi, look]
    by_cases he : m[i].1 = n
    · rw [if_pos he]
      show MR _ (if dq m[i].2 t = true then some m else none)
      cases hd : dq m[i].2 t <;> rw [hd] at e1
      · rw [if_neg Bool.false_ne_true]
        refine ⟨m.map bc, ?_⟩
        simp -implicitDefEqProofs only [evs, Nat.reduceAdd, reduceIte, hlt, x1, x2, x3, he, e1]
      · rw [if_pos rfl]
        show _ = _
        simp -implicitDefEqProofs only [evs, Nat.reduceAdd, reduceIte, hlt, x1, x2, x3, he, e1]
    · rw [if_neg he]
      simp -implicitDefEqProofs only [evs, Nat.reduceAdd, reduceIte, hlt, x1, x2, x3, he, h5]
      exact ih
theorem l4Mc0_loop (a t : T) (ht : Tz t) (ha : Tz a) (hl : a.args.length = t.args.length) (m : Sub') (hm : ∀ q ∈ m, Tz q.2) (hk : m.length + nodesL a.args ≤ 4000000)
    (ih : ∀ u ∈ a.args, ∀ (s : T) (m : Sub'), Tz s → (∀ q ∈ m, Tz q.2) → m.length + nodes u ≤ 4000000 → MR (C135_1 (tm u) (tm s) (m.map bc)) (mt m u s)) :
    MR (L135c0_1 (vi 0) (sv a.name) (tms a.args) (sv t.name) (tms t.args) (m.map bc)) (mtL m a.args t.args) := by
  have ha' := ha
  unfold Tz at ha
  rw [tsz_eq] at ha
  have nd : ∀ i, i < a.args.length → nodesL (a.args.drop i) = nodesL a.args → True := fun _ _ _ => trivial
  have key2 := upto (P := fun i => ∀ m : Sub', (∀ q ∈ m, Tz q.2) → m.length + nodesL (a.args.drop i) ≤ 4000000 → MR (L135c0_2 (vi i) (sv a.name) (tms a.args) (sv t.name) (tms t.args) (m.map bc)) (mtL m (a.args.drop i) (t.args.drop i))) (n := a.args.length) ?_ ?_
  rotate_left
  · intro m hm hk
    rw [List.drop_length, l135c0_2]
    simp only [mtL]
    show _ = _
    simp -implicitDefEqProofs only [evs, Nat.reduceAdd, reduceIte, ]
  · intro i hi ih2 m hm hk
    have hi' : i < t.args.length := by omega
    have hlt : (i : Int) < ((a.args.length : Nat) : Int) := by omega
    have h5 := add_one hi (by show a.args.length ≤ 9223372036854775807; omega)
    have e : nodesL (a.args.drop i) = nodes a.args[i] + nodesL (a.args.drop (i + 1)) := by rw [drop_cons hi]; rfl
    have q := ih a.args[i] (List.getElem_mem _) t.args[i] m (ht.args _ (List.getElem_mem _)) hm (by omega)
    rw [drop_cons hi, drop_cons hi', l135c0_2]
    simp only [mtL]
    cases hq : mt m a.args[i] t.args[i] with
    | none =>
      rw [hq] at q
      obtain ⟨R, q⟩ := q
      refine ⟨[], ?_⟩
      simp -implicitDefEqProofs only [evs, Nat.reduceAdd, reduceIte, hlt, pIndexAddr_map hi, pIndexAddr_map hi', pLoadN_tcells, q, List.getElem?_cons_zero, pNo_false, sl259]
    | some m1 =>
      rw [hq] at q
      have q : C135_1 (tm a.args[i]) (tm t.args[i]) (m.map bc) = some (.top, [vb true, .sl 259 (m1.map bc)]) := q
      obtain ⟨i1, i2⟩ := mt_inv (p := Tz) (fun _ h => h.args) _ hm (ht.args _ (List.getElem_mem hi')) hq
      simp -implicitDefEqProofs only [evs, Nat.reduceAdd, reduceIte, hlt, pIndexAddr_map hi, pIndexAddr_map hi', pLoadN_tcells, q, List.getElem?_cons_zero, h5]
      exact ih2 m1 i1 (by omega)
  have e1 : ∀ (m : Sub') (i : Nat), L135c0_1 (vi i) (sv a.name) (tms a.args) (sv t.name) (tms t.args) (m.map bc) = L135c0_2 (vi i) (sv a.name) (tms a.args) (sv t.name) (tms t.args) (m.map bc) := fun m i => by
    rw [l135c0_1, l135c0_2]
  have := key2 0 (Nat.zero_le _) m hm hk
  rw [← e1] at this
  exact this

theorem l4Match_eq : ∀ (a : T), Tz a → ∀ (t : T) (m : Sub'), Tz t → (∀ q ∈ m, Tz q.2) → m.length + nodes a ≤ 4000000 → MR (C135_1 (tm a) (tm t) (m.map bc)) (mt m a t) := by
  refine T.ind fun a ih ha t m ht hm hk => ?_
  have hn := nodes_eq a
  have e1 := l2Var_eq a.name (((twf_eq a).1 ha.wf).1)
  have hal : a.args.length ≤ 1048576 := by unfold Tz at ha; rw [tsz_eq] at ha; omega
  rw [c135_1]
  cases hv : varN a.name <;> rw [hv] at e1
  · rw [mt_fun hv]
    by_cases he : a.name = t.name ∧ a.args.length = t.args.length
    · rw [if_pos he]
      have hl : ((a.args.length : Nat) : Int) = ((t.args.length : Nat) : Int) := by omega
      have := l4Mc1_loop a t ht ha he.2 m hm (by omega) fun u hu s m hs hm hk => ih u hu (ha.args u hu) s m hs hm hk
      rw [he.1] at e1 this
      simp -implicitDefEqProofs only [evs, Nat.reduceAdd, reduceIte, he.1, e1, hl]
      exact this
    · rw [if_neg he]
      refine ⟨m.map bc, ?_⟩
      by_cases h1 : a.name = t.name
      · have hl : ¬ ((a.args.length : Nat) : Int) = ((t.args.length : Nat) : Int) := fun h => he ⟨h1, by omega⟩
        rw [h1] at e1
        simp -implicitDefEqProofs only [evs, Nat.reduceAdd, reduceIte, e1, h1, hl]
      · simp -implicitDefEqProofs only [evs, Nat.reduceAdd, reduceIte, e1, h1]
  · rw [mt_var hv]
    have := l4Mc1_var a.name (tms a.args) t ht m hm (by omega) (okA_sl _ _)
    simp -implicitDefEqProofs only [evs, Nat.reduceAdd, reduceIte, e1]
    exact this
theorem l4Match0_eq (a : T) (ha : Tz a) (t : T) (m : Sub') (ht : Tz t) (hm : ∀ q ∈ m, Tz q.2) (hk : m.length + nodes a ≤ 4000000) : MR (C135_0 (tm a) (sv t.name) (tms t.args) (m.map bc)) (mt m a t) := by
  have hn := nodes_eq a
  have e1 := l2Var_eq a.name (((twf_eq a).1 ha.wf).1)
  rw [c135_0]
  cases hv : varN a.name <;> rw [hv] at e1
  · rw [mt_fun hv]
    by_cases he : a.name = t.name ∧ a.args.length = t.args.length
    · rw [if_pos he]
      have hl : ((a.args.length : Nat) : Int) = ((t.args.length : Nat) : Int) := by omega
      have := l4Mc0_loop a t ht ha he.2 m hm (by omega) fun u hu s m hs hm hk => l4Match_eq u (ha.args u hu) s m hs hm hk
      rw [he.1] at e1 this
      simp -implicitDefEqProofs only [evs, Nat.reduceAdd, reduceIte, he.1, e1, hl]
      exact this
    · rw [if_neg he]
      refine ⟨m.map bc, ?_⟩
      by_cases h1 : a.name = t.name
      · have hl : ¬ ((a.args.length : Nat) : Int) = ((t.args.length : Nat) : Int) := fun h => he ⟨h1, by omega⟩
        rw [h1] at e1
        simp -implicitDefEqProofs only [evs, Nat.reduceAdd, reduceIte, e1, h1, hl]
      · simp -implicitDefEqProofs only [evs, Nat.reduceAdd, reduceIte, e1, h1]
  · rw [mt_var hv]
    have := l4Mc0_var a.name (tms a.args) t ht m hm (by omega) (okA_sl _ _)
    simp -implicitDefEqProofs only [evs, Nat.reduceAdd, reduceIte, e1]
    exact this
end Go.Proofs.YtnbjmmldjggkfaaGreat
/- MATCHING BY THE PROGRAM, WITH A MAP; WHAT A MATCH PUTS IN. -/
namespace Go.Proofs.YtnbjmmldjggkfaaGreat
open Go Go.RowKit Go.Proofs.YtnbjmmldjggkfaaGreat.Abs

set_option linter.unusedSimpArgs false
set_option linter.unusedVariables false
set_option maxHeartbeats 1000000

abbrev kv (p : List UInt8 × T) : List A := [sv p.1, tm p.2]
theorem eqK_sv (a b : List UInt8) : eqK none (sv a) (sv b) = some (decide (a = b)) := by show some (decide (bs _ = bs _)) = _; refine congrArg some (decide_eq_decide.2 ?_); simp
theorem mFind_look (n : List UInt8) : ∀ (m : Sub') (k : Nat), mFind none (sv n) (m.map kv) k = some (match look m n with | some _ => (match m.findIdx? (fun p => decide (p.1 = n)) with | some j => some (k + j, tm ((look m n).getD (.mk [] []))) | none => none) | none => none)
  | [], k => rfl
  | p :: m, k => by
    rw [List.map_cons, look, mFind, eqK_sv]
    by_cases h : p.1 = n
    · rw [if_pos h, decide_eq_true h.symm, List.findIdx?_cons, if_pos (decide_eq_true h)]
      rfl
    · rw [if_neg h, decide_eq_false (fun e => h e.symm), List.findIdx?_cons, if_neg (by simp [h])]
      show mFind none (sv n) (m.map kv) (k + 1) = _
      rw [mFind_look n m (k + 1)]
      cases look m n with
      | none => rfl
      | some r =>
        cases m.findIdx? (fun p => decide (p.1 = n)) with
        | none => rfl
        | some j => show some (some (k + 1 + j, _)) = some (some (k + (j + 1), _)); rw [show k + 1 + j = k + (j + 1) by omega]
theorem look_idx {n : List UInt8} : ∀ {m : Sub'} {r : T}, look m n = some r → ∃ j, m.findIdx? (fun p => decide (p.1 = n)) = some j ∧ m.set j (n, r) = m
  | p :: m, r, h => by
    rw [look] at h
    rw [List.findIdx?_cons]
    by_cases e : p.1 = n
    · rw [if_pos e] at h
      rw [if_pos (decide_eq_true e)]
      cases h
      exact ⟨0, rfl, by rw [← e]; rfl⟩
    · rw [if_neg e] at h
      rw [if_neg (by simp [e])]
      obtain ⟨j, h1, h2⟩ := look_idx h
      exact ⟨j + 1, by rw [h1]; rfl, by rw [List.set_cons_succ, h2]⟩
theorem pLook_kv (z : List A) (m : Sub') (n : List UInt8) : pLook none true false z (.mp (m.map kv)) (sv n) = some (match look m n with | some r => .tup [tm r, vb true] | none => .tup [.agg z, vb false]) := by
  show ((some (m.map kv)).bind fun xs => (mFind none (sv n) xs 0).map (lookR true false z)) = _
  rw [Option.bind_some, mFind_look]
  cases h : look m n with
  | none => rfl
  | some r =>
    obtain ⟨j, h1, _⟩ := look_idx h
    show (some (match m.findIdx? _ with | some j => some (0 + j, tm r) | none => none)).map _ = _
    rw [h1]
    rfl
theorem pPut_none {m : Sub'} {n : List UInt8} (h : look m n = none) (t : T) : pPut none (m.map kv) (sv n) (tm t) = some ((m ++ [(n, t)]).map kv) := by
  show (mFind none (sv n) (m.map kv) 0).map _ = _
  rw [mFind_look, h, List.map_append]
  rfl
theorem pPut_some {m : Sub'} {n : List UInt8} {r : T} (h : look m n = some r) (a : A) : ∃ R, pPut none (m.map kv) (sv n) a = some R ∧ (a = tm r → R = m.map kv) := by
  obtain ⟨j, h1, h2⟩ := look_idx h
  refine ⟨(m.map kv).set j [sv n, a], ?_, fun e => ?_⟩
  · show (mFind none (sv n) (m.map kv) 0).map _ = _
    rw [mFind_look, h]
    show (some (match m.findIdx? _ with | some j => some (0 + j, tm r) | none => none)).map _ = _
    rw [h1]
    show some ((m.map kv).set (0 + j) [sv n, a]) = _
    rw [Nat.zero_add]
  · rw [e]
    have : ([sv n, tm r] : List A) = kv (n, r) := rfl
    rw [this, ← List.map_set, h2]

/-- What a match with a map comes to. -/
def MI (o : Option Out) (r : Option Sub') : Prop := match r with
  | some m' => o = some (.top, [vb true, .sl 128 (m'.map kv)])
  | none => ∃ R, o = some (.top, [vb false, .sl 128 R])

theorem imc1_loop (a t : T) (ht : Tz t) (ha : Tz a) (hl : a.args.length = t.args.length) (m : Sub') (hm : ∀ q ∈ m, Tz q.2)
    (ih : ∀ u ∈ a.args, ∀ (s : T) (m : Sub'), Tz s → (∀ q ∈ m, Tz q.2) → MI (C140_1 (sv u.name) (tms u.args) (tm s) (m.map kv)) (mt m u s)) :
    MI (L140c1_0 (tms a.args) (vi (a.args.length : Nat)) (vi 0) (sv t.name) (tms t.args) (m.map kv)) (mtL m a.args t.args) := by
  have ha' := ha
  unfold Tz at ha
  rw [tsz_eq] at ha
  have key2 := upto (P := fun i => ∀ m : Sub', (∀ q ∈ m, Tz q.2) → MI (L140c1_0 (tms a.args) (vi (a.args.length : Nat)) (vi i) (sv t.name) (tms t.args) (m.map kv)) (mtL m (a.args.drop i) (t.args.drop i))) (n := a.args.length) ?_ ?_
  rotate_left
  · intro m hm
    rw [List.drop_length, l140c1_0]
    simp only [mtL]
    show _ = _
    simp -implicitDefEqProofs only [evs, Nat.reduceAdd, reduceIte, ]
  · intro i hi ih2 m hm
    have hi' : i < t.args.length := by omega
    have hlt : (i : Int) < ((a.args.length : Nat) : Int) := by omega
    have h5 := add_one hi (by show a.args.length ≤ 9223372036854775807; omega)
    have q := ih a.args[i] (List.getElem_mem _) t.args[i] m (ht.args _ (List.getElem_mem _)) hm
    rw [drop_cons hi, drop_cons hi', l140c1_0]
    simp only [mtL]
    cases hq : mt m a.args[i] t.args[i] with
    | none =>
      rw [hq] at q
      obtain ⟨R, q⟩ := q
      refine ⟨R, ?_⟩
      simp -implicitDefEqProofs only [evs, Nat.reduceAdd, reduceIte, hlt, pIndexAddr_map hi, pIndexAddr_map hi', pLoadN_tcells, q, List.getElem?_cons_zero]
    | some m1 =>
      rw [hq] at q
      have q : C140_1 (sv a.args[i].name) (tms a.args[i].args) (tm t.args[i]) (m.map kv) = some (.top, [vb true, .sl 128 (m1.map kv)]) := q
      obtain ⟨i1, i2⟩ := mt_inv (p := Tz) (fun _ h => h.args) _ hm (ht.args _ (List.getElem_mem hi')) hq
      simp -implicitDefEqProofs only [evs, Nat.reduceAdd, reduceIte, hlt, pIndexAddr_map hi, pIndexAddr_map hi', pLoadN_tcells, q, List.getElem?_cons_zero, h5]
      exact ih2 m1 i1
  exact key2 0 (Nat.zero_le _) m hm

theorem imc0_loop (a t : T) (ht : Tz t) (ha : Tz a) (hl : a.args.length = t.args.length) (m : Sub') (hm : ∀ q ∈ m, Tz q.2)
    (ih : ∀ u ∈ a.args, ∀ (s : T) (m : Sub'), Tz s → (∀ q ∈ m, Tz q.2) → MI (C140_1 (sv u.name) (tms u.args) (tm s) (m.map kv)) (mt m u s)) :
    MI (L140c0_0 (tms a.args) (vi (a.args.length : Nat)) (vi 0) (sv t.name) (tms t.args) (m.map kv)) (mtL m a.args t.args) := by
  have ha' := ha
  unfold Tz at ha
  rw [tsz_eq] at ha
  have key2 := upto (P := fun i => ∀ m : Sub', (∀ q ∈ m, Tz q.2) → MI (L140c0_0 (tms a.args) (vi (a.args.length : Nat)) (vi i) (sv t.name) (tms t.args) (m.map kv)) (mtL m (a.args.drop i) (t.args.drop i))) (n := a.args.length) ?_ ?_
  rotate_left
  · intro m hm
    rw [List.drop_length, l140c0_0]
    simp only [mtL]
    show _ = _
    simp -implicitDefEqProofs only [evs, Nat.reduceAdd, reduceIte, ]
  · intro i hi ih2 m hm
    have hi' : i < t.args.length := by omega
    have hlt : (i : Int) < ((a.args.length : Nat) : Int) := by omega
    have h5 := add_one hi (by show a.args.length ≤ 9223372036854775807; omega)
    have q := ih a.args[i] (List.getElem_mem _) t.args[i] m (ht.args _ (List.getElem_mem _)) hm
    rw [drop_cons hi, drop_cons hi', l140c0_0]
    simp only [mtL]
    cases hq : mt m a.args[i] t.args[i] with
    | none =>
      rw [hq] at q
      obtain ⟨R, q⟩ := q
      refine ⟨R, ?_⟩
      simp -implicitDefEqProofs only [evs, Nat.reduceAdd, reduceIte, hlt, pIndexAddr_map hi, pIndexAddr_map hi', pLoadN_tcells, q, List.getElem?_cons_zero]
    | some m1 =>
      rw [hq] at q
      have q : C140_1 (sv a.args[i].name) (tms a.args[i].args) (tm t.args[i]) (m.map kv) = some (.top, [vb true, .sl 128 (m1.map kv)]) := q
      obtain ⟨i1, i2⟩ := mt_inv (p := Tz) (fun _ h => h.args) _ hm (ht.args _ (List.getElem_mem hi')) hq
      simp -implicitDefEqProofs only [evs, Nat.reduceAdd, reduceIte, hlt, pIndexAddr_map hi, pIndexAddr_map hi', pLoadN_tcells, q, List.getElem?_cons_zero, h5]
      exact ih2 m1 i1
  exact key2 0 (Nat.zero_le _) m hm

theorem im1_step (a : T) (ha : Tz a) (hk : okT a = true) (t : T) (m : Sub') (ht : Tz t) (hm : ∀ q ∈ m, Tz q.2)
    (ih : ∀ u ∈ a.args, ∀ (s : T) (m : Sub'), Tz s → (∀ q ∈ m, Tz q.2) → MI (C140_1 (sv u.name) (tms u.args) (tm s) (m.map kv)) (mt m u s)) :
    MI (C140_1 (sv a.name) (tms a.args) (tm t) (m.map kv)) (mt m a t) := by
  have e1 : G 123 [.agg [sv a.name, tms a.args]] = some (vb (varN a.name), []) := isVar_eq a hk
  have hal : a.args.length ≤ 1048576 := by unfold Tz at ha; rw [tsz_eq] at ha; omega
  rw [c140_1]
  cases hv : varN a.name <;> rw [hv] at e1
  · rw [mt_fun hv]
    have pk : (if ((a.args.length : Nat) : Int) = 0 then G 123 [.agg [sv a.name, tms a.args]] else some (vb false, [])) = some (vb false, []) := by split <;> first | exact e1 | rfl
    by_cases he : a.name = t.name ∧ a.args.length = t.args.length
    · rw [if_pos he]
      have hl : ((a.args.length : Nat) : Int) = ((t.args.length : Nat) : Int) := by omega
      have := imc1_loop a t ht ha he.2 m hm ih
      by_cases h0 : ((a.args.length : Nat) : Int) = 0
      · have h0' : ((t.args.length : Nat) : Int) = 0 := by omega
        rw [he.1] at e1
        rw [he.2, h0'] at this
        simp -implicitDefEqProofs only [evs, Nat.reduceAdd, reduceIte, he.1, h0', e1, hl]
        exact this
      · have h0' : ¬ ((t.args.length : Nat) : Int) = 0 := by omega
        rw [he.1] at e1
        rw [he.2] at this
        simp -implicitDefEqProofs only [evs, Nat.reduceAdd, reduceIte, he.1, h0', hl]
        exact this
    · rw [if_neg he]
      refine ⟨m.map kv, ?_⟩
      by_cases h1 : a.name = t.name
      · have hl : ¬ ((a.args.length : Nat) : Int) = ((t.args.length : Nat) : Int) := fun h => he ⟨h1, by omega⟩
        rw [h1] at e1
        by_cases h0 : ((a.args.length : Nat) : Int) = 0
        · have hl0 : ¬ (0 : Int) = ((t.args.length : Nat) : Int) := by omega
          simp -implicitDefEqProofs only [evs, Nat.reduceAdd, reduceIte, e1, h1, h0, hl0]
        · simp -implicitDefEqProofs only [evs, Nat.reduceAdd, reduceIte, h1, h0, hl]
      · by_cases h0 : ((a.args.length : Nat) : Int) = 0
        · simp -implicitDefEqProofs only [evs, Nat.reduceAdd, reduceIte, e1, h1, h0]
        · simp -implicitDefEqProofs only [evs, Nat.reduceAdd, reduceIte, h1, h0]
  · rw [mt_var hv]
    have h0 : a.args = [] := var_args hk hv
    rw [h0] at e1
    have hz : (((0 : Nat) : Int) = 0) = True := by simp
    have lk := pLook_kv [sv [], .sl 2 []] m a.name
    cases hl : look m a.name with
    | none =>
      rw [hl] at lk
      have lk : pLook none true false [sv [], .sl 2 []] (.mp (m.map kv)) (sv a.name) = some (.tup [.agg [sv [], .sl 2 []], vb false]) := lk
      have pp := pPut_none hl t
      show _ = _
      rw [h0]
      simp -implicitDefEqProofs only [evs, Nat.reduceAdd, reduceIte, e1, hz, lk, pp, List.map_nil]
    | some r =>
      rw [hl] at lk
      have lk : pLook none true false [sv [], .sl 2 []] (.mp (m.map kv)) (sv a.name) = some (.tup [tm r, vb true]) := lk
      obtain ⟨R, pp, hR⟩ := pPut_some hl (tm t)
      have e2 := equalTerms_eq r (hm _ (look_in hl)).wf t ht.wf
      show MI _ (if dq r t = true then some m else none)
      rw [h0]
      cases hd : dq r t <;> rw [hd] at e2
      · rw [if_neg Bool.false_ne_true]
        refine ⟨R, ?_⟩
        simp -implicitDefEqProofs only [evs, Nat.reduceAdd, reduceIte, e1, hz, lk, pp, e2, List.map_nil]
      · rw [if_pos rfl]
        have hr : R = m.map kv := hR (by rw [dq_true.1 hd])
        rw [hr] at pp
        show _ = _
        simp -implicitDefEqProofs only [evs, Nat.reduceAdd, reduceIte, e1, hz, lk, pp, e2, List.map_nil]

theorem im0_step (a : T) (ha : Tz a) (hk : okT a = true) (t : T) (m : Sub') (ht : Tz t) (hm : ∀ q ∈ m, Tz q.2)
    (ih : ∀ u ∈ a.args, ∀ (s : T) (m : Sub'), Tz s → (∀ q ∈ m, Tz q.2) → MI (C140_1 (sv u.name) (tms u.args) (tm s) (m.map kv)) (mt m u s)) :
    MI (C140_0 (tm a) (sv t.name) (tms t.args) (m.map kv)) (mt m a t) := by
  have e1 : G 123 [.agg [sv a.name, tms a.args]] = some (vb (varN a.name), []) := isVar_eq a hk
  have hal : a.args.length ≤ 1048576 := by unfold Tz at ha; rw [tsz_eq] at ha; omega
  rw [c140_0]
  cases hv : varN a.name <;> rw [hv] at e1
  · rw [mt_fun hv]
    have pk : (if ((a.args.length : Nat) : Int) = 0 then G 123 [.agg [sv a.name, tms a.args]] else some (vb false, [])) = some (vb false, []) := by split <;> first | exact e1 | rfl
    by_cases he : a.name = t.name ∧ a.args.length = t.args.length
    · rw [if_pos he]
      have hl : ((a.args.length : Nat) : Int) = ((t.args.length : Nat) : Int) := by omega
      have := imc0_loop a t ht ha he.2 m hm ih
      by_cases h0 : ((a.args.length : Nat) : Int) = 0
      · have h0' : ((t.args.length : Nat) : Int) = 0 := by omega
        rw [he.1] at e1
        rw [he.2, h0'] at this
        simp -implicitDefEqProofs only [evs, Nat.reduceAdd, reduceIte, he.1, h0', e1, hl]
        exact this
      · have h0' : ¬ ((t.args.length : Nat) : Int) = 0 := by omega
        rw [he.1] at e1
        rw [he.2] at this
        simp -implicitDefEqProofs only [evs, Nat.reduceAdd, reduceIte, he.1, h0', hl]
        exact this
    · rw [if_neg he]
      refine ⟨m.map kv, ?_⟩
      by_cases h1 : a.name = t.name
      · have hl : ¬ ((a.args.length : Nat) : Int) = ((t.args.length : Nat) : Int) := fun h => he ⟨h1, by omega⟩
        rw [h1] at e1
        by_cases h0 : ((a.args.length : Nat) : Int) = 0
        · have hl0 : ¬ (0 : Int) = ((t.args.length : Nat) : Int) := by omega
          simp -implicitDefEqProofs only [evs, Nat.reduceAdd, reduceIte, e1, h1, h0, hl0]
        · simp -implicitDefEqProofs only [evs, Nat.reduceAdd, reduceIte, h1, h0, hl]
      · by_cases h0 : ((a.args.length : Nat) : Int) = 0
        · simp -implicitDefEqProofs only [evs, Nat.reduceAdd, reduceIte, e1, h1, h0]
        · simp -implicitDefEqProofs only [evs, Nat.reduceAdd, reduceIte, h1, h0]
  · rw [mt_var hv]
    have h0 : a.args = [] := var_args hk hv
    rw [h0] at e1
    have hz : (((0 : Nat) : Int) = 0) = True := by simp
    have hta : tm a = .agg [sv a.name, tms []] := by show A.agg [_, A.sl 2 (a.args.map tcells)] = _; rw [h0]
    have lk := pLook_kv [sv [], .sl 2 []] m a.name
    cases hl : look m a.name with
    | none =>
      rw [hl] at lk
      have lk : pLook none true false [sv [], .sl 2 []] (.mp (m.map kv)) (sv a.name) = some (.tup [.agg [sv [], .sl 2 []], vb false]) := lk
      have pp := pPut_none hl t
      show _ = _
      rw [hta]
      simp -implicitDefEqProofs only [evs, Nat.reduceAdd, reduceIte, e1, hz, lk, pp, List.map_nil]
    | some r =>
      rw [hl] at lk
      have lk : pLook none true false [sv [], .sl 2 []] (.mp (m.map kv)) (sv a.name) = some (.tup [tm r, vb true]) := lk
      obtain ⟨R, pp, hR⟩ := pPut_some hl (tm t)
      have e2 := equalTerms_eq r (hm _ (look_in hl)).wf t ht.wf
      show MI _ (if dq r t = true then some m else none)
      rw [hta]
      cases hd : dq r t <;> rw [hd] at e2
      · rw [if_neg Bool.false_ne_true]
        refine ⟨R, ?_⟩
        simp -implicitDefEqProofs only [evs, Nat.reduceAdd, reduceIte, e1, hz, lk, pp, e2, List.map_nil]
      · rw [if_pos rfl]
        have hr : R = m.map kv := hR (by rw [dq_true.1 hd])
        rw [hr] at pp
        show _ = _
        simp -implicitDefEqProofs only [evs, Nat.reduceAdd, reduceIte, e1, hz, lk, pp, e2, List.map_nil]

theorem match_eq : ∀ (a : T), Tz a → okT a = true → ∀ (t : T) (m : Sub'), Tz t → (∀ q ∈ m, Tz q.2) → MI (C140_1 (sv a.name) (tms a.args) (tm t) (m.map kv)) (mt m a t) := by
  refine T.ind fun a ih ha hk t m ht hm => ?_
  exact im1_step a ha hk t m ht hm fun u hu s m hs hm => ih u hu (ha.args u hu) (okT_args hk u hu) s m hs hm
theorem match0_eq (a : T) (ha : Tz a) (hk : okT a = true) (t : T) (m : Sub') (ht : Tz t) (hm : ∀ q ∈ m, Tz q.2) : MI (C140_0 (tm a) (sv t.name) (tms t.args) (m.map kv)) (mt m a t) :=
  im0_step a ha hk t m ht hm fun u hu s m hs hm => match_eq u (ha.args u hu) (okT_args hk u hu) s m hs hm
end Go.Proofs.YtnbjmmldjggkfaaGreat
