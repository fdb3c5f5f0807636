/- TOOLS FOR THE PLAIN LAWS: primitives at known data; loops. -/
import Derived.Test.YtbikhinddomhpaaGreatK
import Derived.Test.YtbikhinddomhpaaGreatE20
namespace Go.Proofs.YtbikhinddomhpaaGreat
open Go Go.RowKit Go.Proofs.YtbikhinddomhpaaGreat.Abs

abbrev ci (n : Int) : List A := [vi n]
abbrev cs (s : List UInt8) : List A := [sv s]
abbrev ints (l : List Int) : A := .sl 1 (l.map ci)
abbrev strs (l : List (List UInt8)) : A := .sl 1 (l.map cs)

section
theorem brn_true {α : Type} (x y : α) : brn true x y = x := rfl
theorem brn_false {α : Type} (x y : α) : brn false x y = y := rfl
theorem brn_ite {α : Type} (b : Bool) (x y : α) : brn b x y = if b = true then x else y := rfl
theorem neg1_lt : (-1 : Int) < 0 := by decide
theorem pBool_vb (b : Bool) : pBool (vb b) = some b := rfl
theorem pPick_vb (b : Bool) (x y : A) : pPick (vb b) x y = some (if b = true then x else y) := rfl
theorem pG_vb (b w : Bool) (x : Option A) : pG (vb b) w x = if b = w then x else some (.val undef) := rfl
theorem pWant_vb (b w : Bool) : pWant (vb b) w = some (decide (b = w)) := rfl
theorem pG_undef (w : Bool) (x : Option A) : pG (.val undef) w x = some (.val undef) := rfl
theorem pWant_undef (w : Bool) : pWant (.val undef) w = some false := rfl
theorem pLenL_sl (k : Nat) (xs : List (List A)) : pLenL (.sl k xs) = some (vi xs.length) := rfl
theorem rLen_eq (xs : List (List A)) : rLen xs = vi xs.length := rfl
theorem rLenN_eq (xs : List (List A)) : rLenN xs = xs.length := rfl
theorem pLenS_sv (l : List UInt8) : pLenS (sv l) = some (vi l.length) := rfl
theorem fin_pair (a : A) : fin false (a, []) = some a := rfl
theorem fin_vb (b c : Bool) : fin c (vb b, []) = some (vb b) := by cases c <;> rfl
theorem fin_vi (c : Bool) (n : Int) : fin c (vi n, []) = some (vi n) := by cases c <;> rfl
theorem pUn_not (b : Bool) : pUn .not (vb b) = some (vb (!b)) := rfl
theorem pBin_lss (b : Bool) (x y : Int) : pBin .lss b (vi x) (vi y) = some (vb (decide (x < y))) := rfl
theorem pBin_leq (b : Bool) (x y : Int) : pBin .leq b (vi x) (vi y) = some (vb (decide (x ≤ y))) := rfl
theorem pBin_gtr (b : Bool) (x y : Int) : pBin .gtr b (vi x) (vi y) = some (vb (decide (y < x))) := rfl
theorem pBin_geq (b : Bool) (x y : Int) : pBin .geq b (vi x) (vi y) = some (vb (decide (y ≤ x))) := rfl
theorem pBin_eql (b : Bool) (x y : Int) : pBin .eql b (vi x) (vi y) = some (vb (decide (x = y))) := rfl
theorem pBin_neq (b : Bool) (x y : Int) : pBin .neq b (vi x) (vi y) = some (vb (!decide (x = y))) := rfl
theorem pBinY_lss (b : Bool) (x y : Int) : pBin .lss b (vy x) (vy y) = some (vb (decide (x < y))) := rfl
theorem pBinY_leq (b : Bool) (x y : Int) : pBin .leq b (vy x) (vy y) = some (vb (decide (x ≤ y))) := rfl
theorem pBinY_gtr (b : Bool) (x y : Int) : pBin .gtr b (vy x) (vy y) = some (vb (decide (y < x))) := rfl
theorem pBinY_geq (b : Bool) (x y : Int) : pBin .geq b (vy x) (vy y) = some (vb (decide (y ≤ x))) := rfl
theorem pBinY_eql (b : Bool) (x y : Int) : pBin .eql b (vy x) (vy y) = some (vb (decide (x = y))) := rfl
theorem pBinY_neq (b : Bool) (x y : Int) : pBin .neq b (vy x) (vy y) = some (vb (!decide (x = y))) := rfl
theorem pBin_beql (x y : Bool) : pBin .eql true (vb x) (vb y) = some (vb (decide (x = y))) := rfl
theorem pBin_bneq (x y : Bool) : pBin .neq true (vb x) (vb y) = some (vb (!decide (x = y))) := rfl
theorem pBin_add (b : Bool) (x y : Int) : pBin .add b (vi x) (vi y) = ck (x + y) := by cases b <;> rfl
theorem pBin_sub (b : Bool) (x y : Int) : pBin .sub b (vi x) (vi y) = ck (x - y) := by cases b <;> rfl
theorem pBin_mul (b : Bool) (x y : Int) : pBin .mul b (vi x) (vi y) = ck (x * y) := by cases b <;> rfl
theorem ck_of {n : Int} (h : I64 n) : ck n = some (vi n) := if_pos h
theorem ck_le {n : Int} (h1 : -9223372036854775808 ≤ n) (h2 : n ≤ 9223372036854775807) : ck n = some (vi n) := if_pos ⟨h1, h2⟩
theorem pBin_sadd (b : Bool) (x y : List UInt8) : pBin .add b (sv x) (sv y) = if x.length + y.length ≤ 9223372036854775807 then some (sv (x ++ y)) else none := by cases b <;> rfl
theorem pBin_seql (b : Bool) (x y : List UInt8) : pBin .eql b (sv x) (sv y) = some (vb (decide (x = y))) := rfl
theorem pBin_sneq (b : Bool) (x y : List UInt8) : pBin .neq b (sv x) (sv y) = some (vb (!decide (x = y))) := rfl
theorem pBin_slss (b : Bool) (x y : List UInt8) : pBin .lss b (sv x) (sv y) = some (vb (sLt x y)) := rfl
theorem pLoadP_0 (a : A) (l : List A) : pLoadP (.elt (a :: l) 0) = some a := rfl
theorem pLoadP_elt (cs : List A) (off : Nat) : pLoadP (.elt cs off) = cs[off]? := rfl
theorem pLoadN_elt (n : Nat) (cs : List A) (off : Nat) : pLoadN n (.elt cs off) = if off + n ≤ cs.length then some (.agg ((cs.drop off).take n)) else none := rfl
theorem pLoadN_all {n : Nat} {cs : List A} (h : cs.length = n) : pLoadN n (.elt cs 0) = some (.agg cs) := by
  rw [pLoadN_elt, if_pos (by omega), List.drop_zero, List.take_of_length_le (by omega)]
theorem pAdd_elt (cs : List A) (off n : Nat) : pAdd (.elt cs off) n = some (.elt cs (off + n)) := rfl
theorem pField_agg (off : Nat) (cs : List A) : pField off (.agg cs) = cs[off]? := rfl
theorem pCells_agg (n : Nat) (ds : List A) : pCells n (.agg ds) = if ds.length = n ∧ ds.all okA = true then some ds else none := rfl
theorem cGet_zero (a : A) (l : List A) : cGet (a :: l) 0 = a := rfl
theorem cGet_one (a b : A) (l : List A) : cGet (a :: b :: l) 1 = b := rfl
theorem cGet_two (a b c : A) (l : List A) : cGet (a :: b :: c :: l) 2 = c := rfl
theorem cGet_three (a b c d : A) (l : List A) : cGet (a :: b :: c :: d :: l) 3 = d := rfl
theorem okA_sl (k : Nat) (xs : List (List A)) : okA (.sl k xs) = true := rfl
theorem okA_elt (cs : List A) (o : Nat) : okA (.elt cs o) = true := rfl
theorem okA_fn (f : FuncId) (l : List A) : okA (.fn f l) = true := rfl
theorem okA_vi (n : Int) : okA (vi n) = true := rfl
theorem okA_vb (b : Bool) : okA (vb b) = true := rfl
theorem okA_sv (l : List UInt8) : okA (sv l) = true := rfl
theorem pIx_vi (n : Nat) (i : Int) : pIx n (vi i) = if 0 ≤ i ∧ i < (n : Int) then some i.toNat else none := rfl
theorem pIx_lt {n i : Nat} (h : i < n) : pIx n (vi i) = some i := by
  rw [pIx_vi, if_pos ⟨by omega, by omega⟩]; simp
theorem pRows_sl (k : Nat) (xs : List (List A)) : pRows k (.sl k xs) = some xs := if_pos rfl
theorem pTup_tup (cs : List A) (n : Nat) : pTup (.tup cs) n = cs[n]? := rfl
theorem pTup_0 (a : A) (l : List A) : pTup (.tup (a :: l)) 0 = some a := rfl
theorem pTup_1 (a b : A) (l : List A) : pTup (.tup (a :: b :: l)) 1 = some b := rfl
theorem pTup_2 (a b c : A) (l : List A) : pTup (.tup (a :: b :: c :: l)) 2 = some c := rfl
theorem pMax_vi (x y : Int) : pMax (vi x) (vi y) = some (vi (if x < y then y else x)) := by
  unfold pMax; simp
theorem pMin_vi (x y : Int) : pMin (vi x) (vi y) = some (vi (if y < x then y else x)) := by
  unfold pMin; simp
theorem hD_eq (a : A) (l : List A) (i : Nat) : hD (a, l) i = l[i]? := rfl
theorem hR_0 (k : Nat) (a : A) (xs : List (List A)) (l : List A) : hR k (a, .sl k xs :: l) 0 = some xs := by simp [hR]
theorem hR_1 (k : Nat) (a b : A) (xs : List (List A)) (l : List A) : hR k (a, b :: .sl k xs :: l) 1 = some xs := by simp [hR]
theorem hR_2 (k : Nat) (a b c : A) (xs : List (List A)) (l : List A) : hR k (a, b :: c :: .sl k xs :: l) 2 = some xs := by simp [hR]
theorem callc_fn {f : FuncId} {caps args : List A} {c : Bool} (h : K.pureF f = true) : DX.run K (MM K) (.callc (.fn f caps) args c) = (G f (args ++ caps)).bind (fin c) := by
  simp only [DX.run, h, if_true]

theorem pIndexAddr_map {α : Type} {k : Nat} {f : α → List A} {xs : List α} {i : Nat} (h : i < xs.length) : pIndexAddr k (.sl k (xs.map f)) (vi i) = some (.elt (f xs[i]) 0) := by
  simp only [pIndexAddr, if_true, List.length_map, pIx_lt h, Option.map_some]
  simp [List.getD_eq_getElem?_getD, h]
theorem pIndexAddr_bad {k : Nat} {xs : List (List A)} {i : Int} (h : i < 0) : pIndexAddr k (.sl k xs) (vi i) = none := by
  simp only [pIndexAddr, if_true, pIx_vi]
  rw [if_neg (by omega)]; rfl
theorem add_one {i n : Nat} (h : i < n) (hn : n ≤ 9223372036854775807) : pBin .add false (vi i) (vi 1) = some (vi ((i + 1 : Nat) : Int)) := by
  rw [pBin_add, ck_le (by omega) (by omega)]; rfl
theorem ck_sub {b : Int} {n : Nat} (h0 : 0 ≤ b) (h1 : b ≤ 9223372036854775807) (hn : n ≤ 9223372036854775807) : ck (b - n) = some (vi (b - n)) := ck_le (by omega) (by omega)
theorem rGet_at {xs : List (List A)} {i : Nat} (h : i < xs.length) : rGet xs i = some xs[i] := by
  simp [rGet, h]

/-! ### Windows -/
theorem pB_none (d top : Nat) : pB d top none = if d ≤ top then some d else none := rfl
theorem pB_vi (d top : Nat) (z : Int) : pB d top (some (vi z)) = if 0 ≤ z ∧ z ≤ (top : Int) then some z.toNat else none := rfl
theorem pB_le {d top n : Nat} (h : n ≤ top) : pB d top (some (vi n)) = some n := by
  rw [pB_vi, if_pos ⟨by omega, by omega⟩]; simp
theorem pB_none_le {d top : Nat} (h : d ≤ top) : pB d top none = some d := if_pos h
theorem rCnt_eq (xs : List (List A)) : rCnt xs = xs.length := rfl
theorem rRem_eq (xs : List (List A)) (off : Nat) : rRem xs off = xs.length - off := rfl
theorem rMin_eq (ys : List (List A)) (n : Nat) : rMin ys n = vi (min ys.length n : Nat) := rfl
theorem rTake_eq (ys : List (List A)) (n : Nat) : rTake ys n = ys.take n := rfl
theorem rWin_eq (xs : List (List A)) (off n : Nat) : rWin xs off n = (xs.drop off).take n := rfl
theorem rOver_eq (xs : List (List A)) (off : Nat) (ys : List (List A)) : rOver xs off ys = xs.take off ++ ys ++ xs.drop (off + ys.length) := rfl
theorem nSub_eq (a b : Nat) : nSub a b = a - b := rfl
theorem pRoom_eq (off n : Nat) (ys xs : List (List A)) : pRoom off n ys xs = decide (off + n + ys.length ≤ xs.length) := rfl

theorem upto {P : Nat → Prop} {n : Nat} (h0 : P n) (hs : ∀ i, i < n → P (i + 1) → P i) : ∀ i, i ≤ n → P i := by
  intro i hi
  obtain ⟨k, hk⟩ : ∃ k, n = i + k := ⟨n - i, by omega⟩
  induction k generalizing i with
  | zero => rw [show i = n by omega]; exact h0
  | succ k ih => exact hs i (by omega) (ih (i + 1) (by omega) (by omega))

theorem drop_cons {α : Type} {xs : List α} {i : Nat} (h : i < xs.length) : xs.drop i = xs[i] :: xs.drop (i + 1) := List.drop_eq_getElem_cons h

/-- A loop over a list's elements, from the first on. -/
theorem loop_up {α : Type} {xs : List α} {L : Nat → Option Out} {F : List α → Option Out} (h0 : L xs.length = F []) (hs : ∀ (i : Nat) (h : i < xs.length), L (i + 1) = F (xs.drop (i + 1)) → L i = F (xs[i] :: xs.drop (i + 1))) : L 0 = F xs := by
  have := upto (P := fun i => L i = F (xs.drop i)) (n := xs.length) (by simpa using h0) (fun i hi ih => by rw [drop_cons hi]; exact hs i hi ih) 0 (Nat.zero_le _)
  simpa using this

/-- The same, with something carried along. -/
theorem loop_upA {α β : Type} {xs : List α} {L : Nat → β → Option Out} {F : List α → β → Option Out} (h0 : ∀ b, L xs.length b = F [] b) (hs : ∀ (i : Nat) (h : i < xs.length), (∀ b, L (i + 1) b = F (xs.drop (i + 1)) b) → ∀ b, L i b = F (xs[i] :: xs.drop (i + 1)) b) (b : β) : L 0 b = F xs b := by
  have := upto (P := fun i => ∀ b, L i b = F (xs.drop i) b) (n := xs.length) (by simpa using h0) (fun i hi ih => by rw [drop_cons hi]; exact hs i hi ih) 0 (Nat.zero_le _) b
  simpa using this

/-- Calls. -/
theorem call1 {a : A} {c : Bool} {x : Option Out} (h : x = some (a, [])) (hf : fin c (a, []) = some a) : x.bind (fin c) = some a := by rw [h]; exact hf
/-- The evaluation laws at once. -/
theorem evs :
    ((-1 : Int) < 0) ∧
    (∀ {α : Type} (x y : α), brn true x y = x) ∧
    (∀ {α : Type} (x y : α), brn false x y = y) ∧
    (∀ {α : Type} (b : Bool) (x y : α), brn b x y = if b = true then x else y) ∧
    (∀ {α β : Type} (a : α) (f : α → Option β), (some a).bind f = f a) ∧
    (∀ {α β : Type} (f : α → Option β), none.bind f = none) ∧
    (∀ (b : Bool), pBool (vb b) = some b) ∧
    (∀ (b : Bool) (x y : A), pPick (vb b) x y = some (if b = true then x else y)) ∧
    (∀ (b w : Bool) (x : Option A), pG (vb b) w x = if b = w then x else some (A.val undef)) ∧
    (∀ (b w : Bool), pWant (vb b) w = some (decide (b = w))) ∧
    (∀ (w : Bool) (x : Option A), pG (A.val undef) w x = some (A.val undef)) ∧
    (∀ (w : Bool), pWant (A.val undef) w = some false) ∧
    (∀ (k : Nat) (xs : List (List A)), pLenL (A.sl k xs) = some (vi ↑xs.length)) ∧
    (∀ (xs : List (List A)), rLen xs = vi ↑xs.length) ∧
    (∀ (xs : List (List A)), rLenN xs = xs.length) ∧
    (∀ (l : List UInt8), pLenS (sv l) = some (vi ↑l.length)) ∧
    (∀ (a : A), fin false (a, []) = some a) ∧
    (∀ (b c : Bool), fin c (vb b, []) = some (vb b)) ∧
    (∀ (c : Bool) (n : Int), fin c (vi n, []) = some (vi n)) ∧
    (∀ (b : Bool), pUn UnOp.not (vb b) = some (vb !b)) ∧
    (∀ (b : Bool) (x y : Int), pBin BinOp.lss b (vi x) (vi y) = some (vb (decide (x < y)))) ∧
    (∀ (b : Bool) (x y : Int), pBin BinOp.leq b (vi x) (vi y) = some (vb (decide (x ≤ y)))) ∧
    (∀ (b : Bool) (x y : Int), pBin BinOp.gtr b (vi x) (vi y) = some (vb (decide (y < x)))) ∧
    (∀ (b : Bool) (x y : Int), pBin BinOp.geq b (vi x) (vi y) = some (vb (decide (y ≤ x)))) ∧
    (∀ (b : Bool) (x y : Int), pBin BinOp.eql b (vi x) (vi y) = some (vb (decide (x = y)))) ∧
    (∀ (b : Bool) (x y : Int), pBin BinOp.neq b (vi x) (vi y) = some (vb !decide (x = y))) ∧
    (∀ (b : Bool) (x y : Int), pBin BinOp.lss b (vy x) (vy y) = some (vb (decide (x < y)))) ∧
    (∀ (b : Bool) (x y : Int), pBin BinOp.leq b (vy x) (vy y) = some (vb (decide (x ≤ y)))) ∧
    (∀ (b : Bool) (x y : Int), pBin BinOp.gtr b (vy x) (vy y) = some (vb (decide (y < x)))) ∧
    (∀ (b : Bool) (x y : Int), pBin BinOp.geq b (vy x) (vy y) = some (vb (decide (y ≤ x)))) ∧
    (∀ (b : Bool) (x y : Int), pBin BinOp.eql b (vy x) (vy y) = some (vb (decide (x = y)))) ∧
    (∀ (b : Bool) (x y : Int), pBin BinOp.neq b (vy x) (vy y) = some (vb !decide (x = y))) ∧
    (∀ (x y : Bool), pBin BinOp.eql true (vb x) (vb y) = some (vb (decide (x = y)))) ∧
    (∀ (x y : Bool), pBin BinOp.neq true (vb x) (vb y) = some (vb !decide (x = y))) ∧
    (∀ (b : Bool) (x y : Int), pBin BinOp.add b (vi x) (vi y) = ck (x + y)) ∧
    (∀ (b : Bool) (x y : Int), pBin BinOp.sub b (vi x) (vi y) = ck (x - y)) ∧
    (∀ (b : Bool) (x y : Int), pBin BinOp.mul b (vi x) (vi y) = ck (x * y)) ∧
    (∀ (b : Bool) (x y : List UInt8), pBin BinOp.eql b (sv x) (sv y) = some (vb (decide (x = y)))) ∧
    (∀ (b : Bool) (x y : List UInt8), pBin BinOp.neq b (sv x) (sv y) = some (vb !decide (x = y))) ∧
    (∀ (b : Bool) (x y : List UInt8), pBin BinOp.lss b (sv x) (sv y) = some (vb (sLt x y))) ∧
    (∀ (a : A) (l : List A), pLoadP (A.elt (a :: l) 0) = some a) ∧
    (∀ (cs : List A) (off n : Nat), pAdd (A.elt cs off) n = some (A.elt cs (off + n))) ∧
    (∀ (off : Nat) (cs : List A), pField off (A.agg cs) = cs[off]?) ∧
    (∀ (n : Nat) (ds : List A), pCells n (A.agg ds) = if ds.length = n ∧ ds.all okA = true then some ds else none) ∧
    (∀ (a : A) (l : List A), cGet (a :: l) 0 = a) ∧
    (∀ (a b : A) (l : List A), cGet (a :: b :: l) 1 = b) ∧
    (∀ (a b c : A) (l : List A), cGet (a :: b :: c :: l) 2 = c) ∧
    (∀ (a b c d : A) (l : List A), cGet (a :: b :: c :: d :: l) 3 = d) ∧
    (∀ (k : Nat) (xs : List (List A)), okA (A.sl k xs) = true) ∧
    (∀ (cs : List A) (o : Nat), okA (A.elt cs o) = true) ∧
    (∀ (f : FuncId) (l : List A), okA (A.fn f l) = true) ∧
    (∀ (n : Int), okA (vi n) = true) ∧
    (∀ (b : Bool), okA (vb b) = true) ∧
    (∀ (l : List UInt8), okA (sv l) = true) ∧
    (∀ (k : Nat) (xs : List (List A)), pRows k (A.sl k xs) = some xs) ∧
    (∀ (a : A) (l : List A), pTup (A.tup (a :: l)) 0 = some a) ∧
    (∀ (a b : A) (l : List A), pTup (A.tup (a :: b :: l)) 1 = some b) ∧
    (∀ (a b c : A) (l : List A), pTup (A.tup (a :: b :: c :: l)) 2 = some c) ∧
    (∀ (x y : Int), pMax (vi x) (vi y) = some (vi (if x < y then y else x))) ∧
    (∀ (x y : Int), pMin (vi x) (vi y) = some (vi (if y < x then y else x))) ∧
    (∀ (a : A) (l : List A) (i : Nat), hD (a, l) i = l[i]?) ∧
    (∀ (k : Nat) (a : A) (xs : List (List A)) (l : List A), hR k (a, A.sl k xs :: l) 0 = some xs) ∧
    (∀ (k : Nat) (a b : A) (xs : List (List A)) (l : List A), hR k (a, b :: A.sl k xs :: l) 1 = some xs) ∧
    (∀ (k : Nat) (a b c : A) (xs : List (List A)) (l : List A), hR k (a, b :: c :: A.sl k xs :: l) 2 = some xs) ∧
    (∀ {α : Type} {a : α} {l : List α} {f : α → Bool}, (a :: l).all f = (f a && l.all f)) ∧
    (∀ {α : Type} {f : α → Bool}, ([] : List α).all f = true) ∧
    (∀ {α : Type} {a : α} {l : List α}, (a :: l).length = l.length + 1) ∧
    (∀ {α : Type}, ([] : List α).length = 0) ∧
    (∀ {α β : Type} {l : List α} (f : α → β), (List.map f l).length = l.length) ∧
    (∀ (n : Nat), 0 + n = n) ∧
    (∀ (b : Bool), (b && b) = b) ∧
    (∀ (b : Bool), (b && true) = b) ∧
    (∀ (p : Prop), (p ∧ p) = p) ∧
    (∀ {α : Type} {_x : Decidable True} (t e : α), (if True then t else e) = t) ∧
    (∀ {α : Type} {_x : Decidable False} (t e : α), (if False then t else e) = e) ∧
    ((true = false) = False) ∧
    ((false = true) = False) ∧
    (∀ (_h : Decidable True), decide True = true) ∧
    (∀ (_h : Decidable False), decide False = false) ∧
    ((!true) = false) ∧
    ((!false) = true) ∧
    (∀ (b : Bool), ((!b) = true) = (b = false)) ∧
    (∀ {p : Prop} [Decidable p], (decide p = true) = p) ∧
    (∀ {p : Prop} {x : Decidable p}, decide p = false ↔ ¬p) ∧
    (∀ (a : Int), ¬a < a) ∧
    ((¬True) = False) ∧
    ((¬False) = True) ∧
    (∀ {α : Type} (a b : α), (if True then a else b) = a) ∧
    (∀ {α : Type} (a b : α), (if False then a else b) = b) :=
  ⟨@neg1_lt, @brn_true, @brn_false, @brn_ite, @Option.bind_some.{0,0}, @Option.bind_none.{0,0}, @pBool_vb, @pPick_vb, @pG_vb, @pWant_vb, @pG_undef, @pWant_undef, @pLenL_sl, @rLen_eq, @rLenN_eq, @pLenS_sv, @fin_pair, @fin_vb, @fin_vi, @pUn_not, @pBin_lss, @pBin_leq, @pBin_gtr, @pBin_geq, @pBin_eql, @pBin_neq, @pBinY_lss, @pBinY_leq, @pBinY_gtr, @pBinY_geq, @pBinY_eql, @pBinY_neq, @pBin_beql, @pBin_bneq, @pBin_add, @pBin_sub, @pBin_mul, @pBin_seql, @pBin_sneq, @pBin_slss, @pLoadP_0, @pAdd_elt, @pField_agg, @pCells_agg, @cGet_zero, @cGet_one, @cGet_two, @cGet_three, @okA_sl, @okA_elt, @okA_fn, @okA_vi, @okA_vb, @okA_sv, @pRows_sl, @pTup_0, @pTup_1, @pTup_2, @pMax_vi, @pMin_vi, @hD_eq, @hR_0, @hR_1, @hR_2, @List.all_cons.{0}, @List.all_nil.{0}, @List.length_cons.{0}, @List.length_nil.{0}, @List.length_map.{0,0}, @Nat.zero_add, @Bool.and_self, @Bool.and_true, @and_self, @if_true.{1}, @if_false.{1}, @Bool.true_eq_false, @Bool.false_eq_true, @decide_true, @decide_false, @Bool.not_true, @Bool.not_false, @Bool.not_eq_true', @decide_eq_true_eq, @decide_eq_false_iff_not, @Int.lt_irrefl, @not_true_eq_false, @not_false_eq_true, @ite_true.{1}, @ite_false.{1}⟩
end

end Go.Proofs.YtbikhinddomhpaaGreat
