/- What the products of the program and of the reference come to, and whether matrices are alike. Conditions: told at each. -/
import Derived.Test.YtbogmlckbkogiaaMMatrixCauchy5
import Derived.Test.YtbogmlckbkogiaaMMatrixCauchy2
import Derived.Test.YtbogmlckbkogiaaMMatrixCauchy4
import Derived.Test.YtbogmlckbkogiaaMMatrixCauchy3
import Derived.Test.YtbogmlckbkogiaaMMatrixCauchy6
namespace Go.Proofs.Ytbogmlckbkogiaa.Red
open Go.RowKit Go.Proofs.YtbogmlckbkogiaaW.PrintWords Go.Proofs.Ytbogmlckbkogiaa.Leaf Go.Proofs.Ytbogmlckbkogiaa.Gf Go.Proofs.Ytbogmlckbkogiaa.H Go.Proofs.Ytbogmlckbkogiaa.Mx Go.Proofs.Ytbogmlckbkogiaa.P
set_option linter.unusedVariables false
set_option linter.unusedSimpArgs false
/-- The product. -/
def mulM (A C : Mat) : Mat := matF A.length (row C 0).length (mm C.length (el A) (el C))
def mulR (A C : Mat) : List (List Int) × Int := if mayB A = true ∧ mayB C = true ∧ (row A 0).length = C.length then (oM (mulM A C), 0) else ([], 1)
/-- The product on its way. -/
def stM (n m p : Nat) (A C : Mat) (i k : Nat) : Mat := matF n p fun a b => if a < i then mm m (el A) (el C) a b else if a = i then sm k (fun l => mul (el A a l) (el C l b)) else 0#8
theorem stM_next (n m p : Nat) (A C : Mat) (i : Nat) : stM n m p A C i m = stM n m p A C (i + 1) 0 := by
  refine mat_ext (matF_reg n p _) (matF_reg n p _) fun a b ha hb => ?_
  unfold stM
  rw [el_matF _ ha hb, el_matF _ ha hb]
  by_cases e : a < i
  · rw [if_pos e, if_pos (by omega)]
  · rw [if_neg e]
    by_cases e2 : a = i
    · rw [if_pos e2, if_pos (by omega)]; rfl
    · rw [if_neg e2, if_neg (by omega)]
      by_cases e3 : a = i + 1
      · rw [if_pos e3]; rfl
      · rw [if_neg e3]
theorem stM_step {n m p : Nat} {A C : Mat} (hC : Reg C m p) {i k : Nat} (hi : i < n) (hk : k < m) :
    (stM n m p A C i k).set i (am (row (stM n m p A C i k) i) (row C k) (el A i k) (row (stM n m p A C i k) i).length) = stM n m p A C i (k + 1) := by
  have hr : Reg (stM n m p A C i k) n p := matF_reg n p _
  refine mat_ext (hr.set hi (by rw [am_length]; exact hr.2 i hi)) (matF_reg n p _) fun a b ha hb => ?_
  have e0 : el (stM n m p A C i (k + 1)) a b = if a < i then mm m (el A) (el C) a b else if a = i then sm (k + 1) (fun l => mul (el A a l) (el C l b)) else 0#8 := by unfold stM; rw [el_matF _ ha hb]
  have e1 : el (stM n m p A C i k) a b = if a < i then mm m (el A) (el C) a b else if a = i then sm k (fun l => mul (el A a l) (el C l b)) else 0#8 := by unfold stM; rw [el_matF _ ha hb]
  rw [e0]
  show at0 (row _ a) b = _
  rw [row_set _ _ _ _ (by rw [hr.1]; exact hi)]
  by_cases e : a = i
  · subst e
    rw [if_pos rfl, am_at _ _ _ _ (by rw [hr.2 a ha]; exact hb), if_neg (by omega), if_pos rfl]
    rw [if_neg (by omega), if_pos rfl] at e1
    simp only [sm]
    rw [← e1, mul_comm (el A a k)]
    rfl
  · rw [if_neg e]
    show el (stM n m p A C i k) a b = _
    rw [e1]
    by_cases e2 : a < i
    · rw [if_pos e2, if_pos e2]
    · rw [if_neg e2, if_neg e2, if_neg e, if_neg e]
theorem mul_l1 {n m p : Nat} {A C : Mat} (hA : Reg A n m) (hC : Reg C m p) (hn : n ≤ 255) (hm : m ≤ 255) (hp : p ≤ 255) (r : List (List Int) × Int) (i : Nat) (hi : i < n)
    (hnext : Ev (fun k => matrix_Mul.l0 k (oM C) (oM (stM n m p A C (i + 1) 0)) (oM A) (n : Int) ((i + 1 : Nat) : Int)) r) (d : Nat) : ∀ k : Nat, k + d = m →
    Ev (fun f => matrix_Mul.l1 f (oM C) (oM (stM n m p A C i k)) (i : Int) (oM A) (n : Int) (i : Int) (ofL (row A i)) (m : Int) (k : Int)) r := by
  induction d with
  | zero =>
    intro k hk
    obtain rfl : k = m := by omega
    refine Ev.step (f := fun f => matrix_Mul.l0 f (oM C) (oM (stM n k p A C (i + 1) 0)) (oM A) (n : Int) ((i + 1 : Nat) : Int)) (fun f => ?_) hnext
    simp only [matrix_Mul.l1]
    rw [if_neg (by omega), stM_next, w64 _ (by omega) (by omega)]
    rfl
  | succ d ih =>
    intro k hk
    have hr : Reg (stM n m p A C i k) n p := matF_reg n p _
    refine Ev.step (f := fun f => (gf_AddMul.f f (ofL (row (stM n m p A C i k) i)) (ofL (row C k)) (ofB (el A i k))).bind fun bt112 => matrix_Mul.l1 f (oM C) ((oM (stM n m p A C i k)).set i bt112.1) (i : Int) (oM A) (n : Int) (i : Int) (ofL (row A i)) (m : Int) ((k + 1 : Nat) : Int)) (fun f => ?_) ?_
    · simp only [matrix_Mul.l1, ofL_length, oM_length, rd_oM, rd_ofL, hA.2 i hi, hr.1, hC.1, Int.toNat_natCast]
      rw [if_pos (by omega), if_pos (by omega), if_pos (by omega), if_pos (by omega), if_pos (by omega), if_pos (by omega), w64 _ (by omega) (by omega)]
      rfl
    · refine Ev.bind (gfAddMul _ _ _ (by rw [hr.2 i hi]; omega)) ?_
      unfold addMulB
      rw [if_pos (by rw [hr.2 i hi, hC.2 k (by omega)])]
      simp only []
      rw [oM_set, stM_step hC hi (by omega)]
      exact ih (k + 1) (by omega)
theorem mul_l0 {n m p : Nat} {A C : Mat} (hA : Reg A n m) (hC : Reg C m p) (hn : n ≤ 255) (hm : m ≤ 255) (hp : p ≤ 255) (d : Nat) : ∀ i : Nat, i + d = n →
    Ev (fun k => matrix_Mul.l0 k (oM C) (oM (stM n m p A C i 0)) (oM A) (n : Int) (i : Int)) (oM (stM n m p A C n 0), 0) := by
  induction d with
  | zero =>
    intro i hi
    obtain rfl : i = n := by omega
    refine Ev.step (f := fun _ => some (oM (stM i m p A C i 0), 0)) (fun k => ?_) (Ev.now _)
    simp only [matrix_Mul.l0]
    rw [if_neg (by omega)]
  | succ d ih =>
    intro i hi
    refine Ev.step (f := fun f => matrix_Mul.l1 f (oM C) (oM (stM n m p A C i 0)) (i : Int) (oM A) (n : Int) (i : Int) (ofL (row A i)) (m : Int) ((0 : Nat) : Int)) (fun f => ?_) (mul_l1 hA hC hn hm hp _ i (by omega) (ih (i + 1) (by omega)) m 0 (by omega))
    simp only [matrix_Mul.l0, oM_length, rd_oM, ofL_length, hA.1, hA.2 i (by omega)]
    rw [if_pos (by omega), if_pos (by omega), if_pos (by omega)]
    rfl
theorem stM_all {n m p : Nat} {A C : Mat} (hA : Reg A n m) (hC : Reg C m p) (hm : 0 < m) : stM n m p A C n 0 = mulM A C := by
  unfold mulM
  rw [hA.1, hC.1, hC.2 0 hm]
  refine mat_ext (matF_reg n p _) (matF_reg n p _) fun a b ha hb => ?_
  unfold stM
  rw [el_matF _ ha hb, el_matF _ ha hb, if_pos ha]
theorem mayB_pos {A : Mat} (h : mayB A = true) : 0 < A.length := ((mayB_iff A).1 h).1
theorem evMul (A C : Mat) (hs : A.length ≤ 9223372036854775807) (hs2 : C.length ≤ 9223372036854775807) : Ev (fun k => matrix_Mul.f k (oM A) (oM C)) (mulR A C) := by
  have j1 : Ev (fun k => matrix_Mul.j0 k (oM A) (oM C) true) ([], 1) := Ev.step (f := fun _ => some ([], 1)) (fun k => by simp only [matrix_Mul.j0, if_true]) (Ev.now _)
  unfold matrix_Mul.f mulR
  refine Ev.bind (evCheck A hs) ?_
  by_cases h1 : mayB A = true
  · simp only [h1, if_true]
    refine Ev.bind (evCheck C hs2) ?_
    by_cases h2 : mayB C = true
    · simp only [h2, if_true, true_and, oM_length, rd_oM0, ofL_length, show ((0 : Int) < (A.length : Int)) = True from eq_true (by have := mayB_pos h1; omega)]
      by_cases h3 : (row A 0).length = C.length
      · simp only [show (((row A 0).length : Int) != (C.length : Int)) = false by simp [h3]]
        rw [if_pos h3]
        obtain ⟨hA, a1, a2, a3, a4⟩ := mayB_reg h1
        obtain ⟨hC, b1, b2, b3, b4⟩ := mayB_reg h2
        refine Ev.step (f := fun k => (matrix_zeros.f k (A.length : Int) ((row C 0).length : Int)).bind fun t105 => matrix_Mul.l0 k (oM C) t105 (oM A) (A.length : Int) 0) (fun k => ?_) ?_
        · simp only [matrix_Mul.j0, Bool.false_eq_true, if_false, oM_length, rd_oM0, ofL_length]
          rw [if_pos (by omega)]
        · refine Ev.bind (evZeros _ _ (by omega) (by omega)) ?_
          have hz : zeroM A.length (row C 0).length = stM A.length C.length (row C 0).length A C 0 0 := by
            refine mat_ext (zeroM_reg _ _) (matF_reg _ _ _) fun a b ha hb => ?_
            unfold stM
            rw [el_zeroM ha hb, el_matF _ ha hb, if_neg (by omega)]
            by_cases e : a = 0
            · rw [if_pos e]; rfl
            · rw [if_neg e]
          rw [h3] at hA
          rw [hz, ← stM_all hA hC b1]
          exact mul_l0 hA hC a2 b2 b4 A.length 0 (by omega)
      · simp only [show (((row A 0).length : Int) != (C.length : Int)) = true by simp; omega]
        rw [if_neg h3]
        exact j1
    · simp only [h2, show ((1 : Int) = 0) = False from eq_false (by decide), if_false, false_and, and_false]
      exact j1
  · simp only [h1, show ((1 : Int) = 0) = False from eq_false (by decide), if_false, false_and]
    exact j1
/-! ### The reference's product -/
theorem refMul_l2 {n m p : Nat} {A C : Mat} (hA : Reg A n m) (hC : Reg C m p) (hm : m ≤ 255) (hp : p ≤ 255) (r : List (List Int) × Int) (X : List (List Int)) (Y : List Int) (i j : Nat) (hi : i < n) (hj : j < p) (hY : Y.length ≤ 255)
    (hnext : Ev (fun k => mooringref02_Mul.l1 k (oM A) (oM C) X (i : Int) (Y ++ [ofB (mm m (el A) (el C) i j)]) ((j + 1 : Nat) : Int)) r) (d : Nat) : ∀ k : Nat, k + d = m →
    Ev (fun f => mooringref02_Mul.l2 f (oM A) (oM C) X (i : Int) Y (j : Int) (ofB (sm k (fun l => mul (el A i l) (el C l j)))) (k : Int)) r := by
  induction d with
  | zero =>
    intro k hk
    obtain rfl : k = m := by omega
    refine Ev.step (f := fun f => mooringref02_Mul.l1 f (oM A) (oM C) X (i : Int) (Y ++ [ofB (mm k (el A) (el C) i j)]) ((j + 1 : Nat) : Int)) (fun f => ?_) hnext
    simp only [mooringref02_Mul.l2, oM_length, hC.1]
    rw [if_neg (by omega), if_pos (by omega), w64 _ (by omega) (by omega)]
    rfl
  | succ d ih =>
    intro k hk
    refine Ev.step (f := fun f => (mooringref01_Mul.f f (ofB (el A i k)) (ofB (el C k j))).bind fun t118 => mooringref02_Mul.l2 f (oM A) (oM C) X (i : Int) Y (j : Int) (Go.bits .xor .u8 (ofB (sm k (fun l => mul (el A i l) (el C l j)))) t118) ((k + 1 : Nat) : Int)) (fun f => ?_) ?_
    · simp only [mooringref02_Mul.l2, oM_length, hC.1, hA.1, rd_oM, rd_ofL, ofL_length, hA.2 i hi, hC.2 k (by omega)]
      rw [if_pos (by omega), if_pos (by omega), if_pos (by omega), if_pos (by omega), if_pos (by omega), if_pos (by omega), if_pos (by omega), w64 _ (by omega) (by omega)]
      rfl
    · refine Ev.bind (refMul _ _) ?_
      rw [xor_ofB]
      exact ih (k + 1) (by omega)
theorem refMul_l1 {n m p : Nat} {A C : Mat} (hA : Reg A n m) (hC : Reg C m p) (hn : n ≤ 255) (hm0 : 0 < m) (hm : m ≤ 255) (hp : p ≤ 255) (r : List (List Int) × Int) (i : Nat) (hi : i < n)
    (hnext : Ev (fun k => mooringref02_Mul.l0 k (oM A) (oM C) (oM (matF (i + 1) p (mm m (el A) (el C)))) ((i + 1 : Nat) : Int)) r) (d : Nat) : ∀ j : Nat, j + d = p →
    Ev (fun f => mooringref02_Mul.l1 f (oM A) (oM C) (oM (matF i p (mm m (el A) (el C)))) (i : Int) (ofL ((List.range j).map (mm m (el A) (el C) i))) (j : Int)) r := by
  induction d with
  | zero =>
    intro j hj
    obtain rfl : j = p := by omega
    refine Ev.step (f := fun f => mooringref02_Mul.l0 f (oM A) (oM C) (oM (matF (i + 1) j (mm m (el A) (el C)))) ((i + 1 : Nat) : Int)) (fun f => ?_) hnext
    simp only [mooringref02_Mul.l1, oM_length, hC.1, rd_oM0, ofL_length, hC.2 0 hm0, (matF_reg i j (mm m (el A) (el C))).1]
    rw [if_pos (by omega), if_neg (by omega), if_pos (by omega), oM_one, oM_append, w64 _ (by omega) (by omega)]
    have e2 : matF i j (mm m (el A) (el C)) ++ [(List.range j).map (mm m (el A) (el C) i)] = matF (i + 1) j (mm m (el A) (el C)) := by unfold matF; rw [List.range_succ, List.map_append]; rfl
    rw [e2]
    rfl
  | succ d ih =>
    intro j hj
    refine Ev.step (f := fun f => mooringref02_Mul.l2 f (oM A) (oM C) (oM (matF i p (mm m (el A) (el C)))) (i : Int) (ofL ((List.range j).map (mm m (el A) (el C) i))) (j : Int) (ofB (sm 0 (fun l => mul (el A i l) (el C l j)))) ((0 : Nat) : Int)) (fun f => ?_) ?_
    · simp only [mooringref02_Mul.l1, oM_length, hC.1, rd_oM0, ofL_length, hC.2 0 hm0]
      rw [if_pos (by omega), if_pos (by omega)]
      rfl
    · refine refMul_l2 hA hC hm hp r _ _ i j hi (by omega) (by rw [ofL_length, List.length_map, List.length_range]; omega) ?_ m 0 (by omega)
      have e : ofL ((List.range j).map (mm m (el A) (el C) i)) ++ [ofB (mm m (el A) (el C) i j)] = ofL ((List.range (j + 1)).map (mm m (el A) (el C) i)) := by
        rw [List.range_succ, List.map_append]; unfold ofL; rw [List.map_append]; rfl
      rw [e]
      exact ih (j + 1) (by omega)
theorem refMul_l0' {n m p : Nat} {A C : Mat} (hA : Reg A n m) (hC : Reg C m p) (hn : n ≤ 255) (hm0 : 0 < m) (hm : m ≤ 255) (hp : p ≤ 255) (d : Nat) : ∀ i : Nat, i + d = n →
    Ev (fun k => mooringref02_Mul.l0 k (oM A) (oM C) (oM (matF i p (mm m (el A) (el C)))) (i : Int)) (oM (matF n p (mm m (el A) (el C))), 0) := by
  induction d with
  | zero =>
    intro i hi
    obtain rfl : i = n := by omega
    refine Ev.step (f := fun _ => some (oM (matF i p (mm m (el A) (el C))), 0)) (fun k => ?_) (Ev.now _)
    simp only [mooringref02_Mul.l0, oM_length, hA.1]
    rw [if_neg (by omega)]
  | succ d ih =>
    intro i hi
    refine Ev.step (f := fun f => mooringref02_Mul.l1 f (oM A) (oM C) (oM (matF i p (mm m (el A) (el C)))) (i : Int) (ofL ((List.range 0).map (mm m (el A) (el C) i))) ((0 : Nat) : Int)) (fun f => ?_) (refMul_l1 hA hC hn hm0 hm hp _ i (by omega) (ih (i + 1) (by omega)) p 0 (by omega))
    simp only [mooringref02_Mul.l0, oM_length, hA.1]
    rw [if_pos (by omega)]
    rfl
theorem evRefMul (A C : Mat) (hs : A.length ≤ 9223372036854775807) (hs2 : C.length ≤ 9223372036854775807) : Ev (fun k => mooringref02_Mul.f k (oM A) (oM C)) (mulR A C) := by
  have j1 : Ev (fun k => mooringref02_Mul.j0 k (oM A) (oM C) true) ([], 1) := Ev.step (f := fun _ => some ([], 1)) (fun k => by simp only [mooringref02_Mul.j0, if_true]) (Ev.now _)
  unfold mooringref02_Mul.f mulR
  refine Ev.bind (evMay A hs) ?_
  by_cases h1 : mayB A = true
  · simp only [h1, if_true]
    refine Ev.bind (evMay C hs2) ?_
    by_cases h2 : mayB C = true
    · simp only [h2, if_true, true_and, oM_length, rd_oM0, ofL_length, show ((0 : Int) < (A.length : Int)) = True from eq_true (by have := mayB_pos h1; omega)]
      by_cases h3 : (row A 0).length = C.length
      · simp only [show (((row A 0).length : Int) != (C.length : Int)) = false by simp [h3]]
        rw [if_pos h3]
        obtain ⟨hA, a1, a2, a3, a4⟩ := mayB_reg h1
        obtain ⟨hC, b1, b2, b3, b4⟩ := mayB_reg h2
        refine Ev.step (f := fun k => mooringref02_Mul.l0 k (oM A) (oM C) (oM (matF 0 (row C 0).length (mm C.length (el A) (el C)))) ((0 : Nat) : Int)) (fun k => ?_) ?_
        · simp only [mooringref02_Mul.j0, Bool.false_eq_true, if_false]
          rfl
        · rw [h3] at hA
          exact refMul_l0' hA hC a2 b1 b2 b4 A.length 0 (by omega)
      · simp only [show (((row A 0).length : Int) != (C.length : Int)) = true by simp; omega]
        rw [if_neg h3]
        exact j1
    · simp only [h2, Bool.false_eq_true, if_false, false_and, and_false]
      exact j1
  · simp only [h1, Bool.false_eq_true, if_false, false_and]
    exact j1
/-! ### Are matrices alike? -/
theorem str_eq (L M : List B) : (strOfNums (ofL L)).toList = (strOfNums (ofL M)).toList ↔ L = M := by
  refine ⟨fun h => ?_, fun h => by rw [h]⟩
  rw [ByteArray.toList_eq, ByteArray.toList_eq, strOfNums_data, strOfNums_data] at h
  have h2 := congrArg (List.map fun c : UInt8 => BitVec.ofNat 8 c.toNat) h
  have hid : ∀ N : List B, ((ofL N).map fun n => UInt8.ofNat n.toNat).map (fun c : UInt8 => BitVec.ofNat 8 c.toNat) = N := by
    intro N
    unfold ofL
    rw [List.map_map, List.map_map]
    refine (List.map_congr_left fun x _ => ?_).trans (List.map_id' N)
    have hx := x.isLt
    simp only [Function.comp, ofB, Int.toNat_natCast]
    apply BitVec.eq_of_toNat_eq
    simp
  rw [hid, hid] at h2
  exact h2
theorem same_l0 (A C : Mat) (hl : A.length = C.length) (hs : A.length ≤ 9223372036854775807) (d : Nat) : ∀ i : Nat, i + d = A.length → (∀ j, j < i → row A j = row C j) → Ev (fun k => mooringref02_Same.l0 k (oM A) (oM C) (i : Int)) (decide (A = C)) := by
  induction d with
  | zero =>
    intro i hi h
    have e : A = C := by
      refine List.ext_getElem hl fun j h1 h2 => ?_
      have h3 := h j (by omega)
      unfold row at h3
      rw [List.getD_eq_getElem?_getD, List.getElem?_eq_getElem h1, List.getD_eq_getElem?_getD, List.getElem?_eq_getElem h2] at h3
      exact h3
    rw [decide_eq_true e]
    refine Ev.step (f := fun _ => some true) (fun k => ?_) (Ev.now _)
    simp only [mooringref02_Same.l0, oM_length]
    rw [if_neg (by omega)]
  | succ d ih =>
    intro i hi h
    by_cases he : row A i = row C i
    · refine Ev.step (f := fun k => mooringref02_Same.l0 k (oM A) (oM C) ((i + 1 : Nat) : Int)) (fun k => ?_) (ih (i + 1) (by omega) (fun j hj => ?_))
      · simp only [mooringref02_Same.l0, oM_length, rd_oM]
        rw [if_pos (by omega), if_pos (by omega), if_pos (by omega), if_pos ((str_eq _ _).2 he), w64 _ (by omega) (by omega)]
        rfl
      · by_cases e : j = i
        · rw [e]; exact he
        · exact h j (by omega)
    · have e : decide (A = C) = false := decide_eq_false (fun e => he (by rw [e]))
      rw [e]
      refine Ev.step (f := fun _ => some false) (fun k => ?_) (Ev.now _)
      simp only [mooringref02_Same.l0, oM_length, rd_oM]
      rw [if_pos (by omega), if_pos (by omega), if_pos (by omega), if_neg (fun h => he ((str_eq _ _).1 h))]
theorem evSame (A C : Mat) (hs : A.length ≤ 9223372036854775807) : Ev (fun k => mooringref02_Same.f k (oM A) (oM C)) (decide (A = C)) := by
  unfold mooringref02_Same.f
  simp only [oM_length]
  by_cases h : A.length = C.length
  · simp only [show ((A.length : Int) = (C.length : Int)) = True from eq_true (by omega), if_true]
    exact same_l0 A C h hs A.length 0 (by omega) (fun j hj => by omega)
  · simp only [show ((A.length : Int) = (C.length : Int)) = False from eq_false (by omega), if_false]
    rw [decide_eq_false (fun e => h (by rw [e]))]
    exact Ev.now _
end Go.Proofs.Ytbogmlckbkogiaa.Red

/- Any k rows of a code's matrix: no sum of multiples of them is nought but that of nought. Conditions: k + m at most 255. -/
namespace Go.Proofs.Ytbogmlckbkogiaa.Mx
open Go.Proofs.Ytbogmlckbkogiaa.Gf
set_option linter.unusedVariables false
set_option linter.unusedSimpArgs false
def sq {α : Type} : List α → (α → B) → B
  | [], _ => 0#8
  | x :: l, f => f x ^^^ sq l f
theorem sl_sq (l : List B) (f : B → B) : sl l f = sq l f := by
  induction l with
  | nil => rfl
  | cons x l ih => simp only [sl, sq]; rw [ih]
theorem sq_congr {α : Type} {l : List α} {f g : α → B} (h : ∀ x ∈ l, f x = g x) : sq l f = sq l g := by
  induction l with
  | nil => rfl
  | cons x l ih => simp only [sq]; rw [h x (by simp), ih (fun y hy => h y (by simp [hy]))]
/-! ### Counting -/
theorem nodup_len {α : Type} [DecidableEq α] : ∀ (l l' : List α), l.Nodup → (∀ x ∈ l, x ∈ l') → l.length ≤ l'.length := by
  intro l
  induction l with
  | nil => intro l' _ _; exact Nat.zero_le _
  | cons a l ih =>
    intro l' hn hs
    rw [List.nodup_cons] at hn
    have h1 := hs a (by simp)
    have h2 := ih (l'.erase a) hn.2 (fun x hx => (List.mem_erase_of_ne (fun e => hn.1 (by rw [← e]; exact hx))).2 (hs x (by simp [hx])))
    rw [List.length_erase_of_mem h1] at h2
    have h3 := List.length_pos_of_mem h1
    rw [List.length_cons]
    omega
theorem filter_split {α : Type} (p : α → Bool) (l : List α) : (l.filter p).length + (l.filter fun x => !p x).length = l.length := by
  induction l with
  | nil => rfl
  | cons a l ih =>
    simp only [List.filter_cons]
    cases p a <;> simp <;> omega
theorem sq_filter {α : Type} (p : α → Bool) (f : α → B) (l : List α) (h : ∀ x ∈ l, p x = false → f x = 0#8) : sq (l.filter p) f = sq l f := by
  induction l with
  | nil => rfl
  | cons a l ih =>
    simp only [List.filter_cons]
    cases hp : p a with
    | true => simp only [if_true, sq]; rw [ih (fun x hx => h x (by simp [hx]))]
    | false => simp only [Bool.false_eq_true, if_false, sq]; rw [ih (fun x hx => h x (by simp [hx])), h a (by simp) hp, BitVec.zero_xor]
theorem sq_map {α β : Type} (g : α → β) (f : β → B) (l : List α) : sq (l.map g) f = sq l (fun x => f (g x)) := by
  induction l with
  | nil => rfl
  | cons a l ih => simp only [List.map_cons, sq]; rw [ih]
theorem sq_append {α : Type} (f : α → B) (l l' : List α) : sq (l ++ l') f = sq l f ^^^ sq l' f := by
  induction l with
  | nil => simp [sq]
  | cons a l ih => simp only [List.cons_append, sq]; rw [ih, BitVec.xor_assoc]
theorem sm_range (n : Nat) (f : Nat → B) : sm n f = sq (List.range n) f := by
  induction n with
  | zero => rfl
  | succ n ih => rw [List.range_succ, sq_append]; simp only [sm, sq]; rw [ih, BitVec.xor_zero]
/-- An element of the code's matrix. -/
def cau (k m : Nat) : Fm := fun v j => if v < k then I v j else inv (BitVec.ofNat 8 (v - k) ^^^ BitVec.ofNat 8 (m + j))
theorem ofNat8_inj {a b : Nat} (ha : a < 256) (hb : b < 256) (h : BitVec.ofNat 8 a = BitVec.ofNat 8 b) : a = b := by
  have := congrArg BitVec.toNat h
  rw [BitVec.toNat_ofNat, BitVec.toNat_ofNat] at this
  omega
theorem nodup_map {α β : Type} (g : α → β) (l : List α) (h : l.Nodup) (hi : ∀ x ∈ l, ∀ y ∈ l, g x = g y → x = y) : (l.map g).Nodup := by
  induction l with
  | nil => exact List.nodup_nil
  | cons a l ih =>
    rw [List.nodup_cons] at h
    rw [List.map_cons, List.nodup_cons]
    refine ⟨fun hm => ?_, ih h.2 (fun x hx y hy => hi x (by simp [hx]) y (by simp [hy]))⟩
    obtain ⟨b, hb, e⟩ := List.mem_map.1 hm
    have := hi b (by simp [hb]) a (by simp) e
    exact h.1 (by rw [← this]; exact hb)
theorem getD_inj {l : List Nat} (h : l.Nodup) {i j : Nat} (hi : i < l.length) (hj : j < l.length) (e : l.getD i 0 = l.getD j 0) : i = j := by
  rw [List.getD_eq_getElem?_getD, List.getElem?_eq_getElem hi, List.getD_eq_getElem?_getD, List.getElem?_eq_getElem hj] at e
  exact (List.getElem_inj h).1 e
theorem getD_mem {l : List Nat} {i : Nat} (hi : i < l.length) : l.getD i 0 ∈ l := by
  rw [List.getD_eq_getElem?_getD, List.getElem?_eq_getElem hi]
  exact List.getElem_mem hi
/-- Any k rows of the code's matrix: no sum of multiples of them is nought but that of nought. -/
theorem cauchy_regular {k m : Nat} (hk : k + m ≤ 255) (ls : List Nat) (hl : ls.length = k) (hnd : ls.Nodup) (hb : ∀ v ∈ ls, v < k + m) (y : Nat → B) (h0 : ∀ j, j < k → sm k (fun i => mul (y i) (cau k m (ls.getD i 0) j)) = 0#8) : ∀ i, i < k → y i = 0#8 := by
  have hlt : ∀ i, i < k → ls.getD i 0 < k + m := fun i hi => hb _ (getD_mem (by rw [hl]; exact hi))
  -- the rows behind the first k
  have hbig : ∀ i, i < k → k ≤ ls.getD i 0 → y i = 0#8 := by
    let Pi : List Nat := (List.range k).filter fun i => decide (k ≤ ls.getD i 0)
    let Ji : List Nat := (List.range k).filter fun j => !decide (j ∈ ls)
    have hPi : ∀ i, i ∈ Pi ↔ i < k ∧ k ≤ ls.getD i 0 := fun i => by simp only [Pi, List.mem_filter, List.mem_range, decide_eq_true_eq]
    have hJi : ∀ j, j ∈ Ji ↔ j < k ∧ ¬ j ∈ ls := fun j => by simp only [Ji, List.mem_filter, List.mem_range, Bool.not_eq_true', decide_eq_false_iff_not]
    let gx : Nat → B := fun i => BitVec.ofNat 8 (ls.getD i 0 - k)
    let gy : Nat → B := fun j => BitVec.ofNat 8 (m + j)
    let c : B → B := fun x => match (List.range k).find? (fun i => ls.getD i 0 == k + x.toNat) with | some i => y i | none => 0#8
    have hc : ∀ i, i ∈ Pi → c (gx i) = y i := by
      intro i hi
      obtain ⟨h1, h2⟩ := (hPi i).1 hi
      have h3 := hlt i h1
      have h4 : (gx i).toNat = ls.getD i 0 - k := by simp only [gx, BitVec.toNat_ofNat]; omega
      have h5 : (List.range k).find? (fun i' => ls.getD i' 0 == k + (gx i).toNat) = some i := by
        rw [List.find?_range_eq_some]
        refine ⟨by rw [h4, beq_iff_eq]; omega, List.mem_range.2 h1, fun j hj => ?_⟩
        rw [h4, Bool.not_eq_true', beq_eq_false_iff_ne]
        intro e
        have := getD_inj hnd (i := j) (j := i) (by omega) (by omega) (by omega)
        omega
      show (match (List.range k).find? (fun i' => ls.getD i' 0 == k + (gx i).toNat) with | some i => y i | none => 0#8) = y i
      rw [h5]
    have hlen : (Pi.map gx).length ≤ (Ji.map gy).length := by
      rw [List.length_map, List.length_map]
      have s1 := filter_split (fun i => decide (k ≤ ls.getD i 0)) (List.range k)
      have s2 := filter_split (fun j => !decide (j ∈ ls)) (List.range k)
      rw [List.length_range] at s1 s2
      have s3 : ((List.range k).filter fun j => !(!decide (j ∈ ls))).length ≤ (((List.range k).filter fun i => !decide (k ≤ ls.getD i 0)).map fun i => ls.getD i 0).length := by
        refine nodup_len _ _ (List.Pairwise.filter _ List.nodup_range) (fun j hj => ?_)
        simp only [List.mem_filter, List.mem_range, Bool.not_not, decide_eq_true_eq] at hj
        obtain ⟨i, hi, e⟩ := List.mem_iff_getElem.1 hj.2
        have e2 : ls.getD i 0 = j := by rw [List.getD_eq_getElem?_getD, List.getElem?_eq_getElem hi]; exact e
        refine List.mem_map.2 ⟨i, ?_, e2⟩
        simp only [List.mem_filter, List.mem_range, Bool.not_eq_true', decide_eq_false_iff_not]
        exact ⟨by omega, by rw [e2]; omega⟩
      rw [List.length_map] at s3
      show ((List.range k).filter fun i => decide (k ≤ ls.getD i 0)).length ≤ ((List.range k).filter fun j => !decide (j ∈ ls)).length
      omega
    have key := cauchy_null (Pi.map gx) (Ji.map gy) ?_ ?_ ?_ hlen c ?_
    · intro i hi h1
      have hm : i ∈ Pi := (hPi i).2 ⟨hi, h1⟩
      rw [← hc i hm]
      exact key _ (List.mem_map.2 ⟨i, hm, rfl⟩)
    · refine nodup_map gx Pi (List.Pairwise.filter _ List.nodup_range) (fun i hi j hj e => ?_)
      obtain ⟨h1, h2⟩ := (hPi i).1 hi
      obtain ⟨h3, h4⟩ := (hPi j).1 hj
      have h5 := hlt i h1
      have h6 := hlt j h3
      have := ofNat8_inj (by omega) (by omega) e
      exact getD_inj hnd (by omega) (by omega) (by omega)
    · refine nodup_map gy Ji (List.Pairwise.filter _ List.nodup_range) (fun i hi j hj e => ?_)
      obtain ⟨h1, h2⟩ := (hJi i).1 hi
      obtain ⟨h3, h4⟩ := (hJi j).1 hj
      have := ofNat8_inj (by omega) (by omega) e
      omega
    · intro x hx z hz e
      obtain ⟨i, hi, rfl⟩ := List.mem_map.1 hx
      obtain ⟨j, hj, rfl⟩ := List.mem_map.1 hz
      obtain ⟨h1, h2⟩ := (hPi i).1 hi
      obtain ⟨h3, h4⟩ := (hJi j).1 hj
      have h5 := hlt i h1
      have := ofNat8_inj (by omega) (by omega) e
      omega
    · intro z hz
      obtain ⟨j, hj, rfl⟩ := List.mem_map.1 hz
      obtain ⟨h3, h4⟩ := (hJi j).1 hj
      rw [← h0 j h3, sm_range, sl_sq, sq_map]
      have e1 : sq Pi (fun i => mul (c (gx i)) (inv (gx i ^^^ gy j))) = sq Pi (fun i => mul (y i) (cau k m (ls.getD i 0) j)) := by
        refine sq_congr (fun i hi => ?_)
        rw [hc i hi]
        unfold cau
        rw [if_neg (by have := ((hPi i).1 hi).2; omega)]
      rw [e1]
      refine sq_filter _ _ _ (fun i hi hp => ?_)
      have h5 : ¬ k ≤ ls.getD i 0 := by simpa using hp
      unfold cau
      rw [if_pos (by omega)]
      unfold I
      rw [if_neg (fun e => h4 (by rw [← e]; exact getD_mem (by rw [hl]; exact List.mem_range.1 hi))), mul_zero]
  intro i hi
  by_cases h1 : k ≤ ls.getD i 0
  · exact hbig i hi h1
  · have h2 := h0 (ls.getD i 0) (by omega)
    rw [sm_single hi (fun j hj hne => ?_)] at h2
    · unfold cau I at h2
      rw [if_pos (by omega), if_pos rfl, mul_one] at h2
      exact h2
    · by_cases h3 : k ≤ ls.getD j 0
      · rw [hbig j hj h3, zero_mul]
      · unfold cau I
        rw [if_pos (by omega), if_neg (fun e => hne (getD_inj hnd (by omega) (by omega) e)), mul_zero]
end Go.Proofs.Ytbogmlckbkogiaa.Mx

/- What Cauchy and Rows come to, in the program and in the reference. Conditions: told at each. -/
namespace Go.Proofs.Ytbogmlckbkogiaa.Red
open Go.RowKit Go.Proofs.YtbogmlckbkogiaaW.PrintWords Go.Proofs.Ytbogmlckbkogiaa.Leaf Go.Proofs.Ytbogmlckbkogiaa.Gf Go.Proofs.Ytbogmlckbkogiaa.H Go.Proofs.Ytbogmlckbkogiaa.Mx Go.Proofs.Ytbogmlckbkogiaa.P
set_option linter.unusedVariables false
set_option linter.unusedSimpArgs false
def cauM (k m : Nat) : Mat := matF (k + m) k (cau k m)
def cauR (a b : Int) : List (List Int) × Int := if 1 ≤ a ∧ 1 ≤ b ∧ b ≤ 255 - a then (oM (cauM a.toNat b.toNat), 0) else ([], 1)
theorem byte_nat (v : Nat) : ((v : Int) % 256) = ofB (BitVec.ofNat 8 v) := by
  unfold ofB
  rw [BitVec.toNat_ofNat]
  omega
/-- A row of the code's matrix on its way. -/
def caR (k m i j : Nat) : List B := (List.range k).map fun b => if b < j then cau k m (k + i) b else 0#8
theorem caR_set (k m i j : Nat) (hj : j < k) : (caR k m i j).set j (inv (BitVec.ofNat 8 i ^^^ BitVec.ofNat 8 (m + j))) = caR k m i (j + 1) := by
  refine ext0 (by simp [caR]) fun b hb => ?_
  rw [List.length_set] at hb
  have hb' : b < k := by simpa [caR] using hb
  have e : ∀ j', at0 (caR k m i j') b = if b < j' then cau k m (k + i) b else 0#8 := fun j' => at0_map _ _ _ hb'
  rw [at0_set _ _ _ _ (by simpa [caR] using hj), e, e]
  by_cases e1 : j = b
  · subst e1
    rw [if_pos rfl, if_pos (by omega)]
    unfold cau
    rw [if_neg (by omega), show k + i - k = i by omega]
  · rw [if_neg e1]
    by_cases e2 : b < j
    · rw [if_pos e2, if_pos (by omega)]
    · rw [if_neg e2, if_neg (by omega)]
theorem caR_all (k m i : Nat) : caR k m i k = (List.range k).map (cau k m (k + i)) := List.map_congr_left fun b hb => if_pos (List.mem_range.1 hb)
theorem cau_next (k m i : Nat) : matF (k + i) k (cau k m) ++ [(List.range k).map (cau k m (k + i))] = matF (k + (i + 1)) k (cau k m) := by
  unfold matF; rw [show k + (i + 1) = (k + i) + 1 by omega, List.range_succ, List.map_append]; rfl
theorem cauchy_l1 (k m : Nat) (hk : k + m ≤ 255) (r : List (List Int) × Int) (i : Nat) (hi : i < m) (hnext : Ev (fun f => matrix_Cauchy.l0 f (k : Int) (m : Int) (oM (matF (k + (i + 1)) k (cau k m))) (m : Int) ((i + 1 : Nat) : Int)) r) (d : Nat) : ∀ j : Nat, j + d = k →
    Ev (fun f => matrix_Cauchy.l1 f (k : Int) (m : Int) (oM (matF (k + i) k (cau k m))) (i : Int) (ofL (caR k m i j)) (m : Int) (i : Int) (k : Int) (j : Int)) r := by
  induction d with
  | zero =>
    intro j hj
    obtain rfl : j = k := by omega
    refine Ev.step (f := fun f => matrix_Cauchy.l0 f (j : Int) (m : Int) (oM (matF (j + (i + 1)) j (cau j m))) (m : Int) ((i + 1 : Nat) : Int)) (fun f => ?_) hnext
    simp only [matrix_Cauchy.l1, oM_length, (matF_reg (j + i) j (cau j m)).1]
    rw [if_neg (by omega), if_pos (by omega), oM_one, oM_append, caR_all, cau_next, w64 _ (by omega) (by omega)]
    rfl
  | succ d ih =>
    intro j hj
    refine Ev.step (f := fun f => matrix_Cauchy.l1 f (k : Int) (m : Int) (oM (matF (k + i) k (cau k m))) (i : Int) (ofL (caR k m i (j + 1))) (m : Int) (i : Int) (k : Int) ((j + 1 : Nat) : Int)) (fun f => ?_) (ih (j + 1) (by omega))
    have hl : (caR k m i j).length = k := by simp [caR]
    simp only [matrix_Cauchy.l1, ofL_length, hl, Int.toNat_natCast]
    rw [if_pos (by omega), w64 ((m : Int) + (j : Int)) (by omega) (by omega), show ((m : Int) + (j : Int)) = ((m + j : Nat) : Int) by omega, byte_nat, byte_nat, xor_ofB, gfInv_eq, Option.bind_some, if_pos (by omega), if_pos (by omega), w64 _ (by omega) (by omega)]
    simp only []
    rw [ofL_set, caR_set k m i j (by omega)]
    rfl
theorem cauchy_l0 (k m : Nat) (hk : k + m ≤ 255) (d : Nat) : ∀ i : Nat, i + d = m → Ev (fun f => matrix_Cauchy.l0 f (k : Int) (m : Int) (oM (matF (k + i) k (cau k m))) (m : Int) (i : Int)) (oM (cauM k m), 0) := by
  induction d with
  | zero =>
    intro i hi
    obtain rfl : i = m := by omega
    refine Ev.step (f := fun _ => some (oM (cauM k i), 0)) (fun f => ?_) (Ev.now _)
    simp only [matrix_Cauchy.l0]
    rw [if_neg (by omega)]
    rfl
  | succ d ih =>
    intro i hi
    refine Ev.step (f := fun f => matrix_Cauchy.l1 f (k : Int) (m : Int) (oM (matF (k + i) k (cau k m))) (i : Int) (ofL (caR k m i 0)) (m : Int) (i : Int) (k : Int) ((0 : Nat) : Int)) (fun f => ?_) (cauchy_l1 k m hk _ i (by omega) (ih (i + 1) (by omega)) k 0 (by omega))
    simp only [matrix_Cauchy.l0, Int.toNat_natCast]
    have e : List.replicate k (0 : Int) = ofL (caR k m i 0) := by
      rw [ofL_replicate]
      congr 1
      refine List.ext_getElem (by simp [caR]) fun b h1 h2 => ?_
      simp [caR]
    rw [if_pos (by omega), if_pos (by omega), if_pos (by omega), e]
    rfl
theorem cau_id (k m : Nat) : idM k = matF (k + 0) k (cau k m) := by
  rw [idM_eq]
  refine mat_ext (matF_reg k k I) (matF_reg k k _) fun i j hi hj => ?_
  rw [el_matF _ hi hj, show matF (k + 0) k (cau k m) = matF k k (cau k m) from rfl, el_matF (cau k m) hi hj]
  unfold cau
  rw [if_pos hi]
theorem evCauchy (a b : Int) (ha : -9223372036854775808 ≤ a) : Ev (fun f => matrix_Cauchy.f f a b) (cauR a b) := by
  unfold matrix_Cauchy.f cauR
  have j1 : Ev (fun f => matrix_Cauchy.j0 f a b true) ([], 1) := Ev.step (f := fun _ => some ([], 1)) (fun f => by simp only [matrix_Cauchy.j0, if_true]) (Ev.now _)
  by_cases h1 : a < 1
  · simp only [show (a < 1) = True from eq_true h1, if_true]
    rw [if_neg (by omega)]
    exact j1
  simp only [show (a < 1) = False from eq_false h1, if_false]
  by_cases h2 : b < 1
  · simp only [show (b < 1) = True from eq_true h2, if_true]
    rw [if_neg (by omega)]
    exact j1
  simp only [show (b < 1) = False from eq_false h2, if_false]
  by_cases h3 : a > 255
  · simp only [show (a > 255) = True from eq_true h3, if_true]
    rw [if_neg (by omega)]
    exact j1
  simp only [show (a > 255) = False from eq_false h3, if_false]
  rw [w64 _ (by omega) (by omega)]
  by_cases h4 : b > 255 - a
  · simp only [show decide (b > 255 - a) = true from decide_eq_true h4]
    rw [if_neg (by omega)]
    exact j1
  simp only [show decide (b > 255 - a) = false from decide_eq_false h4]
  rw [if_pos (by omega)]
  obtain ⟨k, rfl⟩ := Int.eq_ofNat_of_zero_le (show 0 ≤ a by omega)
  obtain ⟨m, rfl⟩ := Int.eq_ofNat_of_zero_le (show 0 ≤ b by omega)
  rw [Int.toNat_natCast, Int.toNat_natCast]
  refine Ev.step (f := fun f => (matrix_Identity.f f (k : Int)).bind fun bt101 => matrix_Cauchy.l0 f (k : Int) (m : Int) bt101.1 (m : Int) 0) (fun f => by simp only [matrix_Cauchy.j0, Bool.false_eq_true, if_false]) ?_
  refine Ev.bind (evIdentity (k : Int)) ?_
  unfold idR
  rw [if_pos (by omega), Int.toNat_natCast]
  simp only []
  rw [cau_id k m]
  exact cauchy_l0 k m (by omega) m 0 (by omega)
theorem xor_byte (i n : Nat) : BitVec.ofNat 8 (i ^^^ n) = BitVec.ofNat 8 i ^^^ BitVec.ofNat 8 n := by
  apply BitVec.eq_of_toNat_eq
  rw [BitVec.toNat_xor, BitVec.toNat_ofNat, BitVec.toNat_ofNat, BitVec.toNat_ofNat]
  exact Nat.xor_mod_two_pow
theorem refCauchy_l1 (k m : Nat) (hk : k + m ≤ 255) (r : List (List Int) × Int) (i : Nat) (hi : i < m) (hnext : Ev (fun f => mooringref02_Cauchy.l0 f (k : Int) (m : Int) (oM (matF (k + (i + 1)) k (cau k m))) ((i + 1 : Nat) : Int)) r) (d : Nat) : ∀ j : Nat, j + d = k →
    Ev (fun f => mooringref02_Cauchy.l1 f (k : Int) (m : Int) (oM (matF (k + i) k (cau k m))) (i : Int) (ofL ((List.range j).map (cau k m (k + i)))) (j : Int)) r := by
  induction d with
  | zero =>
    intro j hj
    obtain rfl : j = k := by omega
    refine Ev.step (f := fun f => mooringref02_Cauchy.l0 f (j : Int) (m : Int) (oM (matF (j + (i + 1)) j (cau j m))) ((i + 1 : Nat) : Int)) (fun f => ?_) hnext
    simp only [mooringref02_Cauchy.l1, oM_length, (matF_reg (j + i) j (cau j m)).1]
    rw [if_neg (by omega), if_pos (by omega), oM_one, oM_append, cau_next, w64 _ (by omega) (by omega)]
    rfl
  | succ d ih =>
    intro j hj
    refine Ev.step (f := fun f => (mooringref01_Inv.f f (ofB (BitVec.ofNat 8 i ^^^ BitVec.ofNat 8 (m + j)))).bind fun bt107 => mooringref02_Cauchy.l1 f (k : Int) (m : Int) (oM (matF (k + i) k (cau k m))) (i : Int) (ofL ((List.range j).map (cau k m (k + i))) ++ [bt107.1]) ((j + 1 : Nat) : Int)) (fun f => ?_) ?_
    · have hl : ((List.range j).map (cau k m (k + i))).length = j := by simp
      simp only [mooringref02_Cauchy.l1, ofL_length, hl]
      rw [if_pos (by omega), w64 ((m : Int) + (j : Int)) (by omega) (by omega), show ((m : Int) + (j : Int)) = ((m + j : Nat) : Int) by omega, xor_i64_nat _ _ (by omega) (by omega), byte_nat, xor_byte]
      simp only [show (j < 140737488355328) = True from eq_true (by omega), if_true, w64 ((j : Int) + 1) (by omega) (by omega)]
      rfl
    · refine Ev.bind (refInv _) ?_
      have e : ofL ((List.range j).map (cau k m (k + i))) ++ [ofB (inv (BitVec.ofNat 8 i ^^^ BitVec.ofNat 8 (m + j)))] = ofL ((List.range (j + 1)).map (cau k m (k + i))) := by
        rw [List.range_succ, List.map_append]
        unfold ofL
        rw [List.map_append]
        simp only [List.map_cons, List.map_nil]
        unfold cau
        rw [if_neg (by omega), show k + i - k = i by omega]
      simp only []
      rw [e]
      exact ih (j + 1) (by omega)
theorem refCauchy_l0 (k m : Nat) (hk : k + m ≤ 255) (d : Nat) : ∀ i : Nat, i + d = m → Ev (fun f => mooringref02_Cauchy.l0 f (k : Int) (m : Int) (oM (matF (k + i) k (cau k m))) (i : Int)) (oM (cauM k m), 0) := by
  induction d with
  | zero =>
    intro i hi
    obtain rfl : i = m := by omega
    refine Ev.step (f := fun _ => some (oM (cauM k i), 0)) (fun f => ?_) (Ev.now _)
    simp only [mooringref02_Cauchy.l0]
    rw [if_neg (by omega)]
    rfl
  | succ d ih =>
    intro i hi
    refine Ev.step (f := fun f => mooringref02_Cauchy.l1 f (k : Int) (m : Int) (oM (matF (k + i) k (cau k m))) (i : Int) (ofL ((List.range 0).map (cau k m (k + i)))) ((0 : Nat) : Int)) (fun f => ?_) (refCauchy_l1 k m hk _ i (by omega) (ih (i + 1) (by omega)) k 0 (by omega))
    simp only [mooringref02_Cauchy.l0]
    rw [if_pos (by omega)]
    rfl
theorem evRefCauchy (a b : Int) (ha : -9223372036854775808 ≤ a) : Ev (fun f => mooringref02_Cauchy.f f a b) (cauR a b) := by
  unfold mooringref02_Cauchy.f cauR
  have j1 : Ev (fun f => mooringref02_Cauchy.j0 f a b true) ([], 1) := Ev.step (f := fun _ => some ([], 1)) (fun f => by simp only [mooringref02_Cauchy.j0, if_true]) (Ev.now _)
  by_cases h1 : a < 1
  · simp only [show (a < 1) = True from eq_true h1, if_true]
    rw [if_neg (by omega)]
    exact j1
  simp only [show (a < 1) = False from eq_false h1, if_false]
  by_cases h2 : b < 1
  · simp only [show (b < 1) = True from eq_true h2, if_true]
    rw [if_neg (by omega)]
    exact j1
  simp only [show (b < 1) = False from eq_false h2, if_false]
  by_cases h3 : a > 254
  · simp only [show (a > 254) = True from eq_true h3, if_true]
    rw [if_neg (by omega)]
    exact j1
  simp only [show (a > 254) = False from eq_false h3, if_false]
  rw [w64 _ (by omega) (by omega)]
  by_cases h4 : b > 255 - a
  · simp only [show decide (b > 255 - a) = true from decide_eq_true h4]
    rw [if_neg (by omega)]
    exact j1
  simp only [show decide (b > 255 - a) = false from decide_eq_false h4]
  rw [if_pos (by omega)]
  obtain ⟨k, rfl⟩ := Int.eq_ofNat_of_zero_le (show 0 ≤ a by omega)
  obtain ⟨m, rfl⟩ := Int.eq_ofNat_of_zero_le (show 0 ≤ b by omega)
  rw [Int.toNat_natCast, Int.toNat_natCast]
  refine Ev.step (f := fun f => (mooringref02_Identity.f f (k : Int)).bind fun t101 => mooringref02_Cauchy.l0 f (k : Int) (m : Int) t101 0) (fun f => by simp only [mooringref02_Cauchy.j0, Bool.false_eq_true, if_false]) ?_
  refine Ev.bind (evRefIdentity k (by omega)) ?_
  rw [cau_id k m]
  exact refCauchy_l0 k m (by omega) m 0 (by omega)
/-! ### Rows -/
def rowsM (A : Mat) (l : List Int) : Mat := l.map fun i => row A i.toNat
theorem rows_ok (A : Mat) (hr : ∀ i, i < A.length → (row A i).length < 140737488355328) (l : List Int) (hl : l.length ≤ 255) (h : ∀ j, j < l.length → 0 ≤ rd l (j : Int) ∧ rd l (j : Int) < A.length) (d : Nat) : ∀ i : Nat, i + d = l.length →
    Ev (fun k => matrix_Rows.l0 k (oM A) (oM (rowsM A (l.take i))) l (l.length : Int) (i : Int)) (oM (rowsM A l), 0) := by
  induction d with
  | zero =>
    intro i hi
    obtain rfl : i = l.length := by omega
    rw [List.take_length]
    refine Ev.step (f := fun _ => some (oM (rowsM A l), 0)) (fun f => ?_) (Ev.now _)
    simp only [matrix_Rows.l0]
    rw [if_neg (by omega)]
  | succ d ih =>
    intro i hi
    obtain ⟨h1, h2⟩ := h i (by omega)
    refine Ev.step (f := fun k => matrix_Rows.l0 k (oM A) (oM (rowsM A (l.take (i + 1)))) l (l.length : Int) ((i + 1 : Nat) : Int)) (fun f => ?_) (ih (i + 1) (by omega))
    have e1 : rd_L1 (oM A) (rd l (i : Int)) = ofL (row A (rd l (i : Int)).toNat) := map_getD A _
    have e2 : (rowsM A (l.take i)).length = i := by unfold rowsM; rw [List.length_map, List.length_take]; omega
    have e3 : rowsM A (l.take i) ++ [row A (rd l (i : Int)).toNat] = rowsM A (l.take (i + 1)) := by
      unfold rowsM
      rw [List.take_succ_eq_append_getElem (by omega), List.map_append]
      have e4 : rd l (i : Int) = l[i] := by
        unfold rd
        rw [Int.toNat_natCast, List.getD_eq_getElem?_getD, List.getElem?_eq_getElem (by omega)]
        rfl
      rw [e4]
      rfl
    simp only [matrix_Rows.l0, oM_length, e1, slices_Clone_byte_byte.f, ofL_length, e2]
    rw [if_pos (by omega), if_pos (by omega), if_pos (by omega), if_neg (by omega), if_neg (by omega), if_pos (by omega), if_pos (by omega), if_pos (hr _ (by omega)), Option.bind_some, if_pos (by omega), oM_one, oM_append, e3, w64 _ (by omega) (by omega)]
    rfl
theorem rows_bad (A : Mat) (hr : ∀ i, i < A.length → (row A i).length < 140737488355328) (l : List Int) (hl : l.length ≤ 255) (j : Nat) (hj : j < l.length) (hb : rd l (j : Int) < 0 ∨ rd l (j : Int) ≥ A.length) (d : Nat) : ∀ (i : Nat) (X : List (List Int)), i + d = j → X.length = i →
    Ev (fun k => matrix_Rows.l0 k (oM A) X l (l.length : Int) (i : Int)) ([], 1) := by
  induction d with
  | zero =>
    intro i X hi hX
    obtain rfl : i = j := by omega
    refine Ev.step (f := fun _ => some ([], 1)) (fun f => ?_) (Ev.now _)
    simp only [matrix_Rows.l0, oM_length]
    rw [if_pos (by omega), if_pos (by omega), if_pos (by omega)]
    by_cases h1 : rd l (i : Int) < 0
    · rw [if_pos h1]
    · rw [if_neg h1, if_pos (by omega)]
  | succ d ih =>
    intro i X hi hX
    by_cases h1 : rd l (i : Int) < 0
    · refine Ev.step (f := fun _ => some ([], 1)) (fun f => ?_) (Ev.now _)
      simp only [matrix_Rows.l0, oM_length]
      rw [if_pos (by omega), if_pos (by omega), if_pos (by omega), if_pos h1]
    · by_cases h2 : rd l (i : Int) ≥ A.length
      · refine Ev.step (f := fun _ => some ([], 1)) (fun f => ?_) (Ev.now _)
        simp only [matrix_Rows.l0, oM_length]
        rw [if_pos (by omega), if_pos (by omega), if_pos (by omega), if_neg h1, if_pos (by omega)]
      · have e1 : rd_L1 (oM A) (rd l (i : Int)) = ofL (row A (rd l (i : Int)).toNat) := map_getD A _
        refine Ev.step (f := fun k => matrix_Rows.l0 k (oM A) (X ++ [ofL (row A (rd l (i : Int)).toNat)]) l (l.length : Int) ((i + 1 : Nat) : Int)) (fun f => ?_) (ih (i + 1) _ (by omega) (by rw [List.length_append, hX]; rfl))
        simp only [matrix_Rows.l0, oM_length, e1, slices_Clone_byte_byte.f, ofL_length, hX]
        rw [if_pos (by omega), if_pos (by omega), if_pos (by omega), if_neg (by omega), if_neg (by omega), if_pos (by omega), if_pos (by omega), if_pos (hr _ (by omega)), Option.bind_some, if_pos (by omega), w64 _ (by omega) (by omega)]
        rfl
/-- May such rows be had? -/
def rowsB (A : Mat) (l : List Int) : Bool := mayB A && decide (0 < l.length) && decide (l.length ≤ 255) && l.all fun v => decide (0 ≤ v) && decide (v < A.length)
def rowsR (A : Mat) (l : List Int) : List (List Int) × Int := if rowsB A l = true then (oM (rowsM A l), 0) else ([], 1)
theorem rd_mem (l : List Int) (j : Nat) (hj : j < l.length) : rd l (j : Int) ∈ l := by
  unfold rd
  rw [Int.toNat_natCast, List.getD_eq_getElem?_getD, List.getElem?_eq_getElem hj]
  exact List.getElem_mem hj
theorem evRows (A : Mat) (hs : A.length ≤ 9223372036854775807) (l : List Int) : Ev (fun k => matrix_Rows.f k (oM A) l) (rowsR A l) := by
  have j1 : Ev (fun k => matrix_Rows.j0 k (oM A) l true) ([], 1) := Ev.step (f := fun _ => some ([], 1)) (fun k => by simp only [matrix_Rows.j0, if_true]) (Ev.now _)
  unfold matrix_Rows.f rowsR
  refine Ev.bind (evCheck A hs) ?_
  cases h1 : mayB A with
  | false =>
    rw [show rowsB A l = false by unfold rowsB; rw [h1]; rfl]
    simp only [Bool.false_eq_true, if_false, show ((1 : Int) = 0) = False from eq_false (by decide)]
    exact j1
  | true =>
    simp only [if_true]
    by_cases h2 : l.length = 0
    · rw [show rowsB A l = false by unfold rowsB; rw [decide_eq_false (by omega)]; simp]
      simp only [show ((l.length : Int) = 0) = True from eq_true (by omega), if_true, Bool.false_eq_true, if_false]
      exact j1
    · simp only [show ((l.length : Int) = 0) = False from eq_false (by omega), if_false]
      by_cases h3 : l.length > 255
      · rw [show rowsB A l = false by unfold rowsB; rw [decide_eq_false (show ¬ l.length ≤ 255 by omega)]; simp]
        simp only [show decide ((l.length : Int) > 255) = true from decide_eq_true (by omega), Bool.false_eq_true, if_false]
        exact j1
      · simp only [show decide ((l.length : Int) > 255) = false from decide_eq_false (by omega)]
        obtain ⟨hA, a1, a2, a3, a4⟩ := mayB_reg h1
        have hr : ∀ i, i < A.length → (row A i).length < 140737488355328 := fun i hi => by rw [hA.2 i hi]; omega
        refine Ev.step (f := fun k => matrix_Rows.l0 k (oM A) (oM (rowsM A (l.take 0))) l (l.length : Int) ((0 : Nat) : Int)) (fun k => by simp only [matrix_Rows.j0, Bool.false_eq_true, if_false]; rfl) ?_
        cases h4 : (l.all fun v => decide (0 ≤ v) && decide (v < A.length)) with
        | true =>
          rw [show rowsB A l = true by unfold rowsB; rw [h1, h4, decide_eq_true (show 0 < l.length by omega), decide_eq_true (show l.length ≤ 255 by omega)]; rfl, if_pos rfl]
          refine rows_ok A hr l (by omega) (fun j hj => ?_) l.length 0 (by omega)
          have := List.all_eq_true.1 h4 _ (rd_mem l j hj)
          simpa using this
        | false =>
          rw [show rowsB A l = false by unfold rowsB; rw [h4]; simp]
          simp only [Bool.false_eq_true, if_false]
          obtain ⟨v, hv, hb⟩ := List.all_eq_false.1 h4
          obtain ⟨j, hj, e⟩ := List.mem_iff_getElem.1 hv
          have e2 : rd l (j : Int) = v := by
            unfold rd
            rw [Int.toNat_natCast, List.getD_eq_getElem?_getD, List.getElem?_eq_getElem hj]
            exact e
          refine rows_bad A hr l (by omega) j hj ?_ j 0 _ (by omega) rfl
          rw [e2]
          have hb' : ¬ (0 ≤ v ∧ v < A.length) := by simpa using hb
          omega
end Go.Proofs.Ytbogmlckbkogiaa.Red

/- Any k rows of a code's matrix have an inverse, and Inverse tells it. Conditions: k, m at least 1, k + m at most 255. -/
namespace Go.Proofs.Ytbogmlckbkogiaa.Red
open Go.RowKit Go.Proofs.YtbogmlckbkogiaaW.PrintWords Go.Proofs.Ytbogmlckbkogiaa.Leaf Go.Proofs.Ytbogmlckbkogiaa.Gf Go.Proofs.Ytbogmlckbkogiaa.H Go.Proofs.Ytbogmlckbkogiaa.Mx Go.Proofs.Ytbogmlckbkogiaa.P
set_option linter.unusedVariables false
set_option linter.unusedSimpArgs false
theorem mulM_reg {A C : Mat} {n m p : Nat} (hA : Reg A n m) (hC : Reg C m p) (hm : 0 < m) : Reg (mulM A C) n p := by
  unfold mulM
  rw [hA.1, hC.2 0 hm]
  exact matF_reg n p _
theorem el_mulM {A C : Mat} {n m p : Nat} (hA : Reg A n m) (hC : Reg C m p) (hm : 0 < m) {i j : Nat} (hi : i < n) (hj : j < p) : el (mulM A C) i j = mm m (el A) (el C) i j := by
  unfold mulM
  rw [hA.1, hC.1, hC.2 0 hm, el_matF _ hi hj]
theorem mulM_assoc {A C D : Mat} {n m p q : Nat} (hA : Reg A n m) (hC : Reg C m p) (hD : Reg D p q) (hm : 0 < m) (hp : 0 < p) : mulM (mulM A C) D = mulM A (mulM C D) := by
  refine mat_ext (mulM_reg (mulM_reg hA hC hm) hD hp) (mulM_reg hA (mulM_reg hC hD hp) hm) fun i j hi hj => ?_
  rw [el_mulM (mulM_reg hA hC hm) hD hp hi hj, el_mulM hA (mulM_reg hC hD hp) hm hi hj]
  refine (mm_congr (fun k hk => el_mulM hA hC hm hi hk) (fun _ _ => rfl)).trans ?_
  rw [mm_assoc]
  exact mm_congr (fun _ _ => rfl) (fun k hk => (el_mulM hC hD hp hk hj).symm)
theorem mulM_id {A : Mat} {n m : Nat} (hA : Reg A n m) (hn : 0 < n) : mulM (idM n) A = A := by
  refine mat_ext (mulM_reg (matF_reg n n I) hA hn) hA fun i j hi hj => ?_
  rw [idM_eq, el_mulM (matF_reg n n I) hA hn hi hj]
  refine (mm_congr (fun k hk => el_matF I hi hk) (fun _ _ => rfl)).trans ?_
  exact mm_IL _ _ hi
/-- What Inverse tells of a square matrix whose rows do not cancel out. -/
theorem invR_yes {A : Mat} {n : Nat} (hA : Reg A n n) (hn : 0 < n) (hn2 : n ≤ 255) (h : (redF n 0 0 A (idM n)).1 = n) : ∃ X, invR A = (oM X, 0) ∧ Reg X n n ∧ mulM A X = idM n ∧ mulM X A = idM n := by
  obtain ⟨r1, r2, r3⟩ := inverse_yes hn hA h
  refine ⟨(redF n 0 0 A (idM n)).2.2, ?_, r1, ?_, ?_⟩
  · unfold invR
    rw [if_pos ⟨mayB_of hA hn hn2 hn hn2, by rw [hA.1, hA.2 0 hn]⟩, hA.1, if_neg (by omega)]
  · refine mat_ext (mulM_reg hA r1 hn) (matF_reg n n I) fun i j hi hj => ?_
    rw [el_mulM hA r1 hn hi hj, r3 i j hi hj, idM_eq, el_matF I hi hj]
  · refine mat_ext (mulM_reg r1 hA hn) (matF_reg n n I) fun i j hi hj => ?_
    rw [el_mulM r1 hA hn hi hj, r2 i j hi hj, idM_eq, el_matF I hi hj]
theorem invR_no {A : Mat} {n : Nat} (hA : Reg A n n) (hn : 0 < n) (hn2 : n ≤ 255) (h : (redF n 0 0 A (idM n)).1 < n) : invR A = ([], 4) := by
  unfold invR
  rw [if_pos ⟨mayB_of hA hn hn2 hn hn2, by rw [hA.1, hA.2 0 hn]⟩, hA.1, if_pos h]
def ints (L : List Nat) : List Int := L.map fun (v : Nat) => (v : Int)
theorem ints_length (L : List Nat) : (ints L).length = L.length := List.length_map _
theorem row_rowsM (A : Mat) (L : List Nat) (i : Nat) (hi : i < L.length) : row (rowsM A (ints L)) i = row A (L.getD i 0) := by
  unfold rowsM ints
  rw [List.map_map]
  show (L.map _).getD i [] = _
  rw [List.getD_eq_getElem?_getD, List.getElem?_map, List.getD_eq_getElem?_getD, List.getElem?_eq_getElem hi]
  rfl
theorem rowsM_reg {A : Mat} {n m : Nat} (hA : Reg A n m) (L : List Nat) (h : ∀ v ∈ L, v < n) : Reg (rowsM A (ints L)) L.length m := by
  refine ⟨by unfold rowsM ints; rw [List.length_map, List.length_map], fun i hi => ?_⟩
  rw [row_rowsM A L i hi]
  exact hA.2 _ (h _ (getD_mem hi))
theorem cauM_reg (k m : Nat) : Reg (cauM k m) (k + m) k := matF_reg _ _ _
theorem cauM_may {k m : Nat} (hk : 1 ≤ k) (h : k + m ≤ 255) : mayB (cauM k m) = true := mayB_of (cauM_reg k m) (by omega) h hk (by omega)
theorem pick_inverse {k m : Nat} (hk : 1 ≤ k) (h : k + m ≤ 255) (L : List Nat) (hl : L.length = k) (hnd : L.Nodup) (hb : ∀ v ∈ L, v < k + m) :
    Reg (rowsM (cauM k m) (ints L)) k k ∧ ∃ X, invR (rowsM (cauM k m) (ints L)) = (oM X, 0) ∧ Reg X k k ∧ mulM (rowsM (cauM k m) (ints L)) X = idM k ∧ mulM X (rowsM (cauM k m) (ints L)) = idM k := by
  have hS : Reg (rowsM (cauM k m) (ints L)) k k := by
    have := rowsM_reg (cauM_reg k m) L hb
    rwa [hl] at this
  have hel : ∀ i j, i < k → j < k → el (rowsM (cauM k m) (ints L)) i j = cau k m (L.getD i 0) j := by
    intro i j hi hj
    unfold el
    rw [row_rowsM _ _ _ (by omega)]
    exact el_matF _ (hb _ (getD_mem (by omega))) hj
  refine ⟨hS, invR_yes hS (by omega) (by omega) ?_⟩
  have hle := redF_le (by omega) hS (matF_reg k k I)
  rw [← idM_eq] at hle
  by_cases hlt : (redF k 0 0 (rowsM (cauM k m) (ints L)) (idM k)).1 < k
  · obtain ⟨y, hy, i, hi, hne⟩ := inverse_no (by omega) hS (matF_reg k k I) hlt
    exfalso
    refine hne (cauchy_regular h L hl hnd hb y (fun j hj => ?_) i hi)
    rw [← hy j hj]
    exact sm_congr fun i' hi' => by rw [hel i' j hi' hj]
  · omega
end Go.Proofs.Ytbogmlckbkogiaa.Red

/- The code's matrix is the document's, and any K of its rows have an inverse (the law MatrixCauchy answers true). Conditions: none. -/
namespace Go.Proofs.Ytbogmlckbkogiaa.Pure
open Go.RowKit Go.Proofs.YtbogmlckbkogiaaW.PrintWords Go.Proofs.Ytbogmlckbkogiaa.Leaf Go.Proofs.Ytbogmlckbkogiaa.P Go.Proofs.Ytbogmlckbkogiaa.Gf Go.Proofs.Ytbogmlckbkogiaa.Red Go.Proofs.Ytbogmlckbkogiaa.H Go.Proofs.Ytbogmlckbkogiaa.Mx
set_option linter.unusedSimpArgs false
set_option linter.unusedVariables false
def metL (n : Nat) (L : List Nat) : List Bool := (List.range n).map fun v => decide (v ∈ L)
theorem metL_at (n : Nat) (L : List Nat) (v : Nat) (hv : v < n) : rdOf false (metL n L) (v : Int) = decide (v ∈ L) := by
  unfold rdOf metL
  rw [Int.toNat_natCast, List.getD_eq_getElem?_getD, List.getElem?_map, List.getElem?_range hv]
  rfl
theorem metL_set (n : Nat) (L : List Nat) (v : Nat) (hv : v < n) : (metL n L).set v true = metL n (L ++ [v]) := by
  refine List.ext_getElem (by simp [metL]) fun j h1 h2 => ?_
  simp only [metL, List.length_set, List.length_map, List.length_range] at h1
  simp only [metL, List.getElem_set, List.getElem_map, List.getElem_range, List.mem_append, List.mem_singleton]
  by_cases e : v = j
  · simp [e]
  · simp [e, Ne.symm e]
theorem ints_append (L : List Nat) (v : Nat) : ints L ++ [(v : Int)] = ints (L ++ [v]) := by unfold ints; rw [List.map_append]; rfl
theorem cl1 (k m : Nat) (hk : 1 ≤ k) (hm : 1 ≤ m) (h : k + m ≤ 255) (O : List Int) (X : List (List Int)) (L : List Nat) (hL : L.length ≤ 255) (i : Nat) (hi : i ≤ 255) (r : Bool)
    (hnext : ∀ v, v < k + m → v ∉ L → Ev (fun f => mooringlaw02_MatrixCauchy.l0 f (k : Int) (m : Int) O X (ints (L ++ [v])) (metL (k + m) (L ++ [v])) (v : Int) ((i + 1 : Nat) : Int)) r) (d : Nat) : ∀ a : Nat, a < k + m → (a + d) % (k + m) ∉ L →
    Ev (fun f => mooringlaw02_MatrixCauchy.l1 f (k : Int) (m : Int) O X (ints L) (metL (k + m) L) (a : Int) (i : Int)) r := by
  have hw : wrap64 ((k : Int) + (m : Int)) = ((k + m : Nat) : Int) := by rw [w64 _ (by omega) (by omega)]; omega
  have hml : (metL (k + m) L).length = k + m := by simp [metL]
  have take : ∀ a, a < k + m → a ∉ L → Ev (fun f => mooringlaw02_MatrixCauchy.l1 f (k : Int) (m : Int) O X (ints L) (metL (k + m) L) (a : Int) (i : Int)) r := by
    intro a ha hn
    refine Ev.step (f := fun f => mooringlaw02_MatrixCauchy.l0 f (k : Int) (m : Int) O X (ints (L ++ [a])) (metL (k + m) (L ++ [a])) (a : Int) ((i + 1 : Nat) : Int)) (fun f => ?_) (hnext a ha hn)
    simp only [mooringlaw02_MatrixCauchy.l1, hml, metL_at _ _ _ ha, decide_eq_false hn, ints_length, Int.toNat_natCast, metL_set _ _ _ ha, ints_append]
    rw [if_pos (by omega), if_pos (by omega), if_neg (by decide), if_pos (by omega), w64 _ (by omega) (by omega)]
    rfl
  induction d with
  | zero =>
    intro a ha hn
    rw [Nat.add_zero, Nat.mod_eq_of_lt ha] at hn
    exact take a ha hn
  | succ d ih =>
    intro a ha hn
    by_cases hin : a ∈ L
    · have hlt : (a + 1) % (k + m) < k + m := Nat.mod_lt _ (by omega)
      refine Ev.step (f := fun f => mooringlaw02_MatrixCauchy.l1 f (k : Int) (m : Int) O X (ints L) (metL (k + m) L) (((a + 1) % (k + m) : Nat) : Int) (i : Int)) (fun f => ?_) (ih _ hlt (by rw [Nat.mod_add_mod, show a + 1 + d = a + (d + 1) by omega]; exact hn))
      simp only [mooringlaw02_MatrixCauchy.l1, hml, metL_at _ _ _ ha, decide_eq_true hin, hw]
      rw [if_pos (by omega), if_pos (by omega), if_pos trivial, if_neg (by omega), w64 _ (by omega) (by omega), Int.tmod_eq_emod_of_nonneg (by omega)]
      rfl
    · exact take a ha hin
theorem unmet (n : Nat) (L : List Nat) (h : L.length < n) : ∃ v, v < n ∧ v ∉ L := by
  apply Classical.byContradiction
  intro hn
  have := nodup_len (List.range n) L List.nodup_range (fun v hv => Classical.byContradiction fun hm => hn ⟨v, List.mem_range.1 hv, hm⟩)
  rw [List.length_range] at this
  omega
theorem rd_u8 (l : List Int) (h : ∀ x ∈ l, (Lit.int .u8 x).wf = true) (i : Int) : 0 ≤ rd l i ∧ rd l i ≤ 255 := by
  unfold rd
  rw [List.getD_eq_getElem?_getD]
  cases e : l[i.toNat]? with
  | none => simp
  | some x =>
    have := h x (List.mem_of_getElem? e)
    simpa [Lit.wf, IntKind.min, IntKind.max, IntKind.signed, IntKind.bits] using this
theorem cl0 (k m : Nat) (hk : 1 ≤ k) (hm : 1 ≤ m) (h : k + m ≤ 255) (O : List Int) (hO : ∀ x ∈ O, (Lit.int .u8 x).wf = true) (d : Nat) : ∀ (L : List Nat) (a : Nat), L.length + d = k → L.Nodup → (∀ v ∈ L, v < k + m) → a < k + m →
    Ev (fun f => mooringlaw02_MatrixCauchy.l0 f (k : Int) (m : Int) O (oM (cauM k m)) (ints L) (metL (k + m) L) (a : Int) (L.length : Int)) true := by
  have hw : wrap64 ((k : Int) + (m : Int)) = ((k + m : Nat) : Int) := by rw [w64 _ (by omega) (by omega)]; omega
  induction d with
  | zero =>
    intro L a hd hnd hb ha
    obtain ⟨hS, X, hX, rX, hSX, _⟩ := pick_inverse hk h L (by omega) hnd hb
    refine Ev.step (f := fun f => (matrix_Rows.f f (oM (cauM k m)) (ints L)).bind fun bt123 => (matrix_Inverse.f bt123.1).bind fun bt127 => (mooringref02_Mul.f f bt123.1 bt127.1).bind fun bt131 => if bt123.2 = 0 then (if bt127.2 = 0 then (if bt131.2 = 0 then (mooringref02_Identity.f f (k : Int)).bind fun t135 => (mooringref02_Same.f f bt131.1 t135).bind fun t138 => if t138 = true then (mooringlaw02_awake.f).bind fun t139 => some t139 else some false else some false) else some false) else some false) (fun f => by simp only [mooringlaw02_MatrixCauchy.l0, ints_length]; rw [if_neg (by omega)]) ?_
    refine Ev.bind (evRows _ (by rw [(cauM_reg k m).1]; omega) _) ?_
    have hrb : rowsR (cauM k m) (ints L) = (oM (rowsM (cauM k m) (ints L)), 0) := by
      unfold rowsR
      rw [if_pos]
      unfold rowsB
      simp only [cauM_may hk h, ints_length, Bool.and_eq_true, decide_eq_true_eq, List.all_eq_true, true_and]
      refine ⟨⟨by omega, by omega⟩, fun v hv => ?_⟩
      obtain ⟨u, hu, rfl⟩ := List.mem_map.1 hv
      have := hb u hu
      rw [(cauM_reg k m).1]
      omega
    rw [hrb]
    simp only [matrix_Inverse.f_oM, Option.bind_some, hX]
    refine Ev.bind (evRefMul _ _ (by rw [hS.1]; omega) (by rw [rX.1]; omega)) ?_
    have hmr : mulR (rowsM (cauM k m) (ints L)) X = (oM (idM k), 0) := by
      unfold mulR
      rw [if_pos ⟨mayB_of hS (by omega) (by omega) (by omega) (by omega), mayB_of rX (by omega) (by omega) (by omega) (by omega), by rw [hS.2 0 (by omega), rX.1]⟩, hSX]
    rw [hmr]
    simp only [if_true]
    refine Ev.bind (evRefIdentity k (by omega)) ?_
    refine Ev.bind (evSame _ _ (by rw [idM_eq, (matF_reg k k I).1]; omega)) ?_
    simp only [decide_true, if_true, mooringlaw02_awake.f, Option.bind_some]
    exact Ev.now _
  | succ d ih =>
    intro L a hd hnd hb ha
    obtain ⟨v, hv, hvn⟩ := unmet (k + m) L (by omega)
    have go : ∀ a' : Nat, a' < k + m → Ev (fun f => mooringlaw02_MatrixCauchy.l1 f (k : Int) (m : Int) O (oM (cauM k m)) (ints L) (metL (k + m) L) (a' : Int) (L.length : Int)) true := by
      intro a' ha'
      refine cl1 k m hk hm h O _ L (by omega) L.length (by omega) true (fun u hu hun => ?_) (v + (k + m) - a') a' ha' (by rw [show a' + (v + (k + m) - a') = v + (k + m) by omega, Nat.add_mod_right, Nat.mod_eq_of_lt hv]; exact hvn)
      have := ih (L ++ [u]) u (by rw [List.length_append]; simp; omega) (by
        rw [List.nodup_append]
        exact ⟨hnd, by simp, fun x hx y hy e => hun (by rw [List.mem_singleton] at hy; rw [← hy, ← e]; exact hx)⟩) (fun x hx => by
        rcases List.mem_append.1 hx with hx | hx
        · exact hb x hx
        · rw [List.mem_singleton] at hx; rw [hx]; exact hu) hu
      rw [List.length_append] at this
      exact this
    have j3 : ∀ x : Nat, x ≤ 100000 → Ev (fun f => mooringlaw02_MatrixCauchy.j3 f (k : Int) (m : Int) O (oM (cauM k m)) (ints L) (metL (k + m) L) (x : Int) (L.length : Int)) true := by
      intro x hx
      refine Ev.step (f := fun f => mooringlaw02_MatrixCauchy.l1 f (k : Int) (m : Int) O (oM (cauM k m)) (ints L) (metL (k + m) L) ((x % (k + m) : Nat) : Int) (L.length : Int)) (fun f => ?_) (go _ (Nat.mod_lt _ (by omega)))
      simp only [mooringlaw02_MatrixCauchy.j3, hw]
      rw [if_neg (by omega), Int.tmod_eq_emod_of_nonneg (by omega)]
      rfl
    obtain ⟨o1, o2⟩ := rd_u8 O hO (L.length : Int)
    by_cases hO2 : L.length < O.length
    · obtain ⟨x, hx⟩ := Int.eq_ofNat_of_zero_le o1
      refine Ev.step (f := fun f => mooringlaw02_MatrixCauchy.j3 f (k : Int) (m : Int) O (oM (cauM k m)) (ints L) (metL (k + m) L) ((a + x : Nat) : Int) (L.length : Int)) (fun f => ?_) (j3 (a + x) (by omega))
      simp only [mooringlaw02_MatrixCauchy.l0, ints_length]
      rw [if_pos (by omega), if_pos (by omega), if_pos (by omega), w64 (rd O _) (by omega) (by omega), w64 _ (by omega) (by omega), hx]
      rfl
    · refine Ev.step (f := fun f => mooringlaw02_MatrixCauchy.j3 f (k : Int) (m : Int) O (oM (cauM k m)) (ints L) (metL (k + m) L) (a : Int) (L.length : Int)) (fun f => ?_) (j3 a (by omega))
      simp only [mooringlaw02_MatrixCauchy.l0, ints_length]
      rw [if_pos (by omega), if_neg (by omega)]
theorem cauR_form (a b : Int) : (∃ k m : Nat, a = (k : Int) ∧ b = (m : Int) ∧ 1 ≤ k ∧ 1 ≤ m ∧ k + m ≤ 255 ∧ cauR a b = (oM (cauM k m), 0)) ∨ cauR a b = (oM [], 1) := by
  unfold cauR
  by_cases h : 1 ≤ a ∧ 1 ≤ b ∧ b ≤ 255 - a
  · rw [if_pos h]
    exact .inl ⟨a.toNat, b.toNat, by omega, by omega, by omega, by omega, by omega, rfl⟩
  · rw [if_neg h]
    exact .inr rfl
theorem i64_range {a : Int} (h : (Lit.int .i64 a).wf = true) : -9223372036854775808 ≤ a ∧ a ≤ 9223372036854775807 := by
  simpa [Lit.wf, IntKind.min, IntKind.max, IntKind.signed, IntKind.bits] using h
theorem MatrixCauchy : mooringlaw02_MatrixCauchy.Pure := by
  intro a b O ha hb hO1 hO2 hO
  obtain ⟨ha1, ha2⟩ := i64_range ha
  apply Ev.rounds
  unfold mooringlaw02_MatrixCauchy.f
  refine Ev.bind (evCauchy a b ha1) ?_
  refine Ev.bind (evRefCauchy a b ha1) ?_
  simp only [if_true]
  have j1 : ∀ X, Ev (fun f => mooringlaw02_MatrixCauchy.j1 f a b O X true) true := fun X => Ev.step (f := fun _ => some true) (fun f => by simp only [mooringlaw02_MatrixCauchy.j1, if_true, mooringlaw02_awake.f, Option.bind_some]) (Ev.now _)
  rcases cauR_form a b with ⟨k, m, rfl, rfl, hk, hm, h, e⟩ | e
  · rw [e]
    simp only []
    refine Ev.bind (evSame _ _ (by rw [(cauM_reg k m).1]; omega)) ?_
    simp only [decide_true, Bool.not_true]
    refine Ev.step (f := fun f => mooringlaw02_MatrixCauchy.j1 f (k : Int) (m : Int) O (oM (cauM k m)) (decide ((k : Int) > 24))) (fun f => by simp only [mooringlaw02_MatrixCauchy.j0, Bool.false_eq_true, if_false, if_true]) ?_
    by_cases h24 : k > 24
    · rw [decide_eq_true (by omega)]
      exact j1 _
    · rw [decide_eq_false (by omega)]
      have hw : wrap64 ((k : Int) + (m : Int)) = ((k + m : Nat) : Int) := by rw [w64 _ (by omega) (by omega)]; omega
      refine Ev.step (f := fun f => mooringlaw02_MatrixCauchy.l0 f (k : Int) (m : Int) O (oM (cauM k m)) (ints []) (metL (k + m) []) ((0 : Nat) : Int) ((0 : Nat) : Int)) (fun f => ?_) (cl0 k m hk hm h O hO k [] 0 (by simp) List.nodup_nil (fun v hv => by simp at hv) (by omega))
      simp only [mooringlaw02_MatrixCauchy.j1, Bool.false_eq_true, if_false, hw, Int.toNat_natCast]
      have e : metL (k + m) [] = List.replicate (k + m) false := by
        refine List.ext_getElem (by simp [metL]) fun j h1 h2 => by simp [metL]
      rw [if_pos (by omega), if_pos (by omega), e]
      rfl
  · rw [e]
    simp only []
    refine Ev.bind (evSame [] [] (by decide)) ?_
    simp only [decide_true, Bool.not_true]
    refine Ev.step (f := fun f => mooringlaw02_MatrixCauchy.j1 f a b O (oM []) true) (fun f => by simp only [mooringlaw02_MatrixCauchy.j0, Bool.false_eq_true, if_false]; rw [if_neg (by decide)]) (j1 _)
end Go.Proofs.Ytbogmlckbkogiaa.Pure
