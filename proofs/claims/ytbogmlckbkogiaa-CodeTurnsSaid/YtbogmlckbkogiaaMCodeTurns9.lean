/- Words and walks that the claim CodeTurns leans on (what it does not use is left out). -/
import Derived.Test.YtbogmlckbkogiaaMCodeTurns6
import Derived.Test.YtbogmlckbkogiaaMCodeTurns2
import Derived.Test.YtbogmlckbkogiaaMCodeTurns1
import Derived.OpenShut
import Derived.Test.YtbogmlckbkogiaaMCodeTurns7
import Derived.Test.YtbogmlckbkogiaaMCodeTurns8
import Derived.Test.YtbogmlckbkogiaaMCodeTurns5
import Derived.Test.YtbogmlckbkogiaaMCodeTurns4
import Derived.Deep.Matrix
import Derived.SizedLaws
import Derived.ChangeSlices
import Derived.Deep.Grids
import Derived.Lib.SmallJoins
namespace Go.Proofs.Ytbogmlckbkogiaa.Red
open Go.RowKit Go.Proofs.YtbogmlckbkogiaaW.PrintWords Go.Proofs.Ytbogmlckbkogiaa.Leaf Go.Proofs.Ytbogmlckbkogiaa.Gf Go.Proofs.Ytbogmlckbkogiaa.H Go.Proofs.Ytbogmlckbkogiaa.Mx Go.Proofs.Ytbogmlckbkogiaa.P
set_option linter.unusedVariables false
set_option linter.unusedSimpArgs false
set_option maxRecDepth 100000
theorem aw_enc : encR 2 1 [[5#8], [7#8]] = (oM [[5#8], [7#8], row (mulM (cauM 2 1) [[5#8], [7#8]]) 2], 0) := by decide +kernel
theorem aw_one : (row (mulM (cauM 2 1) [[5#8], [7#8]]) 2).length = 1 := by decide +kernel
theorem aw_dec : (decR 2 1 [[], [7#8], row (mulM (cauM 2 1) [[5#8], [7#8]]) 2] [false, true, true]).2 = 0 ∧ (decR 2 1 [[], [7#8], row (mulM (cauM 2 1) [[5#8], [7#8]]) 2] [false, true, true]).1.length = 3 ∧ (rd_L1 (decR 2 1 [[], [7#8], row (mulM (cauM 2 1) [[5#8], [7#8]]) 2] [false, true, true]).1 0).length = 1 ∧ rd (rd_L1 (decR 2 1 [[], [7#8], row (mulM (cauM 2 1) [[5#8], [7#8]]) 2] [false, true, true]).1 0) 0 = 5 := by decide +kernel
theorem code_Decode.f_oM (k m : Int) (hk : -9223372036854775808 ≤ k) (A : Mat) (hr : ∀ i, i < A.length → (row A i).length ≤ 140737488355327) (H : List Bool) : code_Decode.f k m (oM A) H = some (decR k m A H) := by
  unfold code_Decode.f
  rw [if_pos, unM_oM]
  refine ⟨bytes_oM A, hk, ?_⟩
  rw [List.all_eq_true]
  intro x hx
  obtain ⟨r, hr2, rfl⟩ := List.mem_map.1 hx
  obtain ⟨i, hi, rfl⟩ := List.mem_iff_getElem.1 hr2
  have e : row A i = A[i] := by unfold row; rw [List.getD_eq_getElem?_getD, List.getElem?_eq_getElem hi]; rfl
  rw [ofL_length, ← e]
  exact decide_eq_true (hr i hi)
theorem evAwake03 : Ev (fun k => mooringlaw03_awake.f k) true := by
  unfold mooringlaw03_awake.f
  have e : ([([5] : List Int), ([7] : List Int)] : List (List Int)) = oM [[5#8], [7#8]] := by decide +kernel
  rw [e]
  refine Ev.bind (evEncode 2 1 (by decide) _ (by intro i hi; match i, hi with | 0, _ => decide | 1, _ => decide)) ?_
  rw [aw_enc]
  have h1 := aw_one
  have h2 := aw_dec
  generalize row (mulM (cauM 2 1) [[5#8], [7#8]]) 2 = R at *
  have e2 : (oM [[5#8], [7#8], R]).set (0 : Int).toNat ([] : List Int) = oM [[], [7#8], R] := rfl
  have hd := code_Decode.f_oM 2 1 (by decide) [[], [7#8], R] (by
    intro i hi
    match i, hi with
    | 0, _ => exact Nat.zero_le _
    | 1, _ => exact (show (1 : Nat) ≤ 140737488355327 by omega)
    | 2, _ => show R.length ≤ _; omega) [false, true, true]
  have e3 : (rd_L1 (oM [[5#8], [7#8], R]) 2).length = 1 := by show (ofL R).length = 1; rw [ofL_length]; exact h1
  simp only [e2, hd, e3, Option.bind_some]
  generalize decR 2 1 [[], [7#8], R] [false, true, true] = D at *
  obtain ⟨d1, d2, d3, d4⟩ := h2
  refine Ev.step (f := fun _ => some true) (fun k => ?_) (Ev.now _)
  simp only [d1, d2, d3, d4]
  rfl
theorem light_stop (a b : Int) (x : Int) : ∃ t, (if x ≤ 6000 then ((mooringref03_Code.f a b).bind fun t102 => (if t102 = true then (some (decide ((wrap64 (a * (wrap64 (a + b)))) ≤ 2500))) else (some true))) else (some false)) = some t := by
  by_cases h : x ≤ 6000
  · rw [if_pos h]
    unfold mooringref03_Code.f
    repeat' split
    all_goals first | exact ⟨_, rfl⟩ | (rw [Option.bind_some]; split <;> exact ⟨_, rfl⟩)
  · rw [if_neg h]
    exact ⟨_, rfl⟩
theorem light_l0 (a b : Int) (l : List (List Int)) (d : Nat) : ∀ (i : Nat) (x : Int), i ≤ 300 → i + d = 300 → ∃ t, Ev (fun k => mooringlaw03_light.l0 k a b l x (i : Int)) t := by
  induction d with
  | zero =>
    intro i x hi hd
    obtain ⟨t, ht⟩ := light_stop a b x
    refine ⟨t, Ev.step (f := fun _ => some t) (fun k => ?_) (Ev.now _)⟩
    simp only [mooringlaw03_light.l0]
    rw [if_neg (show ¬ (i : Int) < 300 by omega)]
    rw [ht, ite_self]
  | succ d ih =>
    intro i x hi hd
    by_cases h : (i : Int) < (l.length : Int)
    · obtain ⟨t, ht⟩ := ih (i + 1) (wrap64 (x + ((rd_L1 l (i : Int)).length : Int))) (by omega) (by omega)
      refine ⟨t, Ev.step (f := fun k => mooringlaw03_light.l0 k a b l (wrap64 (x + ((rd_L1 l (i : Int)).length : Int))) ((i + 1 : Nat) : Int)) (fun k => ?_) ht⟩
      simp only [mooringlaw03_light.l0]
      rw [if_pos h, if_pos (by omega), if_pos (by omega), w64 ((i : Int) + 1) (by omega) (by omega)]
      rfl
    · obtain ⟨t, ht⟩ := light_stop a b x
      refine ⟨t, Ev.step (f := fun _ => some t) (fun k => ?_) (Ev.now _)⟩
      simp only [mooringlaw03_light.l0]
      rw [if_neg h, ht]
theorem evLight03 (a b : Int) (l : List (List Int)) : ∃ t, Ev (fun k => mooringlaw03_light.f k a b l) t := by
  unfold mooringlaw03_light.f
  exact light_l0 a b l 300 0 0 (by omega) (by omega)
end Go.Proofs.Ytbogmlckbkogiaa.Red
namespace Go.Proofs.Ytbogmlckbkogiaa.Red
open Go.RowKit Go.Proofs.YtbogmlckbkogiaaW.PrintWords Go.Proofs.Ytbogmlckbkogiaa.Leaf Go.Proofs.Ytbogmlckbkogiaa.Gf Go.Proofs.Ytbogmlckbkogiaa.H Go.Proofs.Ytbogmlckbkogiaa.Mx Go.Proofs.Ytbogmlckbkogiaa.P
set_option linter.unusedVariables false
set_option linter.unusedSimpArgs false
theorem row_take3 (A : Mat) (k i : Nat) (hi : i < k) : row (A.take k) i = row A i := by
  unfold row
  rw [List.getD_eq_getElem?_getD, List.getElem?_take_of_lt hi, List.getD_eq_getElem?_getD]
/-- A product's row is told by the left matrix' row. -/
theorem row_mulM_eq {A A' C : Mat} {n n' m p : Nat} (hA : Reg A n m) (hA' : Reg A' n' m) (hC : Reg C m p) (hm : 0 < m) {i i' : Nat} (hi : i < n) (hi' : i' < n') (h : row A i = row A' i') : row (mulM A C) i = row (mulM A' C) i' := by
  refine ext0 (by rw [(mulM_reg hA hC hm).2 i hi, (mulM_reg hA' hC hm).2 i' hi']) fun j hj => ?_
  rw [(mulM_reg hA hC hm).2 i hi] at hj
  have h1 := el_mulM hA hC hm hi hj
  have h2 := el_mulM hA' hC hm hi' hj
  unfold el at h1 h2
  rw [h1, h2]
  unfold mm
  simp only [h]
theorem cauM_take {k m : Nat} : (cauM k m).take k = idM k := by
  have h1 : Reg ((cauM k m).take k) k k := ⟨by rw [List.length_take, (cauM_reg k m).1]; omega, fun i hi => by rw [row_take3 _ _ _ hi]; exact (cauM_reg k m).2 i (by omega)⟩
  refine mat_ext h1 (matF_reg k k I) fun i j hi hj => ?_
  rw [idM_eq, el_matF I hi hj]
  show at0 (row ((cauM k m).take k) i) j = _
  rw [row_take3 _ _ _ hi]
  show el (cauM k m) i j = _
  unfold cauM
  rw [el_matF (cau k m) (by omega) hj]
  unfold cau
  rw [if_pos hi]
theorem mulM_take {A C : Mat} {n m p k : Nat} (hA : Reg A n m) (hC : Reg C m p) (hm : 0 < m) (hk : k ≤ n) : (mulM A C).take k = mulM (A.take k) C := by
  have hA2 : Reg (A.take k) k m := reg_take hA hk
  refine mat_ext (reg_take (mulM_reg hA hC hm) hk) (mulM_reg hA2 hC hm) fun i j hi hj => ?_
  show at0 (row ((mulM A C).take k) i) j = at0 (row (mulM (A.take k) C) i) j
  rw [row_take3 _ _ _ hi, row_mulM_eq hA hA2 hC hm (by omega) hi (row_take3 _ _ _ hi).symm]
end Go.Proofs.Ytbogmlckbkogiaa.Red
namespace Go.Proofs.Ytbogmlckbkogiaa.P
open Go.Proofs.Ytbogmlckbkogiaa.Leaf
open Go.RowKit Go.Proofs.YtbogmlckbkogiaaW.PrintWords Go.Proofs.YtbogmlckbkogiaaW.PrintLast Go.Proofs.YtbogmlckbkogiaaW.PrintMore
attribute [local go_sem] max2_int min2_int max_two min_two max_three min_three max_four min_four   -- for this text's walks alone
set_option linter.unusedVariables false
set_option linter.unusedSimpArgs false
def mooringref03_Check.j0 : Nat → Int → Int → List (List Int) → Bool → Option (Bool × Int)
  | 0, _, _, _, _ => none
  | k + 1, x0, x1, x2, x21 => if x21 = true then (some (false, 1)) else (if 0 ≤ x0 then (if x0 ≤ (x2.length : Int) then ((mooringref03_Encode.f k x0 x1 (x2.take (x0 : Int).toNat)).bind fun bt107 => ((mooringref02_Same.f k bt107.1 x2).bind fun t111 => (some (t111, 0)))) else (none)) else (none))
def mooringref03_Check.f (k : Nat) (a0 : Int) (a1 : Int) (l2 : List (List Int)) : Option (Bool × Int) := (mooringref03_Code.f a0 a1).bind fun t101 => (if t101 = true then ((mooringref03_even.f k l2 (wrap64 (a0 + a1))).bind fun t102 => (mooringref03_Check.j0 k a0 a1 l2 (!t102))) else (mooringref03_Check.j0 k a0 a1 l2 true))
theorem mooringref03_Check.mono_l : ∀ k, (∀ y0 y1 y2 y3, LeO (mooringref03_Check.j0 k y0 y1 y2 y3) (mooringref03_Check.j0 (k + 1) y0 y1 y2 y3))
  | 0 => fun _ _ _ _ r h => by simp [mooringref03_Check.j0] at h
  | k + 1 => by
    have ih0 := mooringref03_Check.mono_l k
    · intro y0 y1 y2 y3
      unfold mooringref03_Check.j0
      repeat' first
      | (with_reducible exact ih0 _ _ _ _)
      | (with_reducible exact mooringref02_Same.mono _ _ _)
      | (with_reducible exact mooringref03_Encode.mono _ _ _ _)
      | (with_reducible exact mooringref03_even.mono _ _ _)
      | (with_reducible exact LeO.refl _)
      | (with_reducible exact LeO.none _)
      | (with_reducible refine LeO.ite ?_ ?_)
      | (with_reducible refine LeO.bind ?_ (fun _ => ?_))
      | exact ih0 _ _ _ _
      | exact mooringref02_Same.mono _ _ _
      | exact mooringref03_Encode.mono _ _ _ _
      | exact mooringref03_even.mono _ _ _
      | exact LeO.none _
      | refine LeO.ite ?_ ?_
      | refine LeO.bind ?_ (fun _ => ?_)
theorem mooringref03_Check.mono : ∀ a0 a1 a2 k, LeO (mooringref03_Check.f k a0 a1 a2) (mooringref03_Check.f (k + 1) a0 a1 a2) := by
  intro a0 a1 a2 k
  have ih0 := mooringref03_Check.mono_l k
  unfold mooringref03_Check.f
  repeat' first
      | (with_reducible exact ih0 _ _ _ _)
      | (with_reducible exact mooringref02_Same.mono _ _ _)
      | (with_reducible exact mooringref03_Encode.mono _ _ _ _)
      | (with_reducible exact mooringref03_even.mono _ _ _)
      | (with_reducible exact LeO.refl _)
      | (with_reducible exact LeO.none _)
      | (with_reducible refine LeO.ite ?_ ?_)
      | (with_reducible refine LeO.bind ?_ (fun _ => ?_))
      | exact ih0 _ _ _ _
      | exact mooringref02_Same.mono _ _ _
      | exact mooringref03_Encode.mono _ _ _ _
      | exact mooringref03_even.mono _ _ _
      | exact LeO.none _
      | refine LeO.ite ?_ ?_
      | refine LeO.bind ?_ (fun _ => ?_)
end Go.Proofs.Ytbogmlckbkogiaa.P
namespace Go.Proofs.Ytbogmlckbkogiaa.P
open Go.Proofs.Ytbogmlckbkogiaa.Leaf
open Go.RowKit Go.Proofs.YtbogmlckbkogiaaW.PrintWords Go.Proofs.YtbogmlckbkogiaaW.PrintLast Go.Proofs.YtbogmlckbkogiaaW.PrintMore
attribute [local go_sem] max2_int min2_int max_two min_two max_three min_three max_four min_four   -- for this text's walks alone
set_option linter.unusedVariables false
set_option linter.unusedSimpArgs false
def mooringlaw03_CodeChecks.f (k : Nat) (a0 : Int) (a1 : Int) (l2 : List (List Int)) : Option (Bool) := (mooringlaw03_light.f k a0 a1 l2).bind fun t101 => (if t101 = true then ((code_Check.f k a0 a1 l2).bind fun bt102 => ((mooringref03_Check.f k a0 a1 l2).bind fun bt104 => (if (bt102.1 == bt104.1) = true then (if bt102.2 = bt104.2 then ((mooringlaw03_awake.f k).bind fun t106 => (some t106)) else (some false)) else (some false)))) else ((mooringlaw03_awake.f k).bind fun t107 => (some t107)))
theorem mooringlaw03_CodeChecks.mono : ∀ a0 a1 a2 k, LeO (mooringlaw03_CodeChecks.f k a0 a1 a2) (mooringlaw03_CodeChecks.f (k + 1) a0 a1 a2) := by
  intro a0 a1 a2 k
  unfold mooringlaw03_CodeChecks.f
  repeat' first
      | (with_reducible exact code_Check.mono _ _ _ _)
      | (with_reducible exact mooringlaw03_awake.mono _)
      | (with_reducible exact mooringlaw03_light.mono _ _ _ _)
      | (with_reducible exact mooringref03_Check.mono _ _ _ _)
      | (with_reducible exact LeO.refl _)
      | (with_reducible exact LeO.none _)
      | (with_reducible refine LeO.ite ?_ ?_)
      | (with_reducible refine LeO.bind ?_ (fun _ => ?_))
      | exact code_Check.mono _ _ _ _
      | exact mooringlaw03_awake.mono _
      | exact mooringlaw03_light.mono _ _ _ _
      | exact mooringref03_Check.mono _ _ _ _
      | exact LeO.none _
      | refine LeO.ite ?_ ?_
      | refine LeO.bind ?_ (fun _ => ?_)
end Go.Proofs.Ytbogmlckbkogiaa.P
namespace Go.Proofs.Ytbogmlckbkogiaa.Pure
open Go.RowKit Go.Proofs.YtbogmlckbkogiaaW.PrintWords Go.Proofs.Ytbogmlckbkogiaa.Leaf Go.Proofs.Ytbogmlckbkogiaa.P Go.Proofs.Ytbogmlckbkogiaa.Gf Go.Proofs.Ytbogmlckbkogiaa.Red Go.Proofs.Ytbogmlckbkogiaa.H Go.Proofs.Ytbogmlckbkogiaa.Mx
set_option linter.unusedSimpArgs false
set_option linter.unusedVariables false
def chkR (a b : Int) (A : Mat) : Bool × Int :=
  if codeB a b = true ∧ evenB A (a + b) = true then ((encR a b (A.take a.toNat)).1 == oM A, 0) else (false, 1)
theorem take_oM3 (A : Mat) (k : Nat) : (oM A).take k = oM (A.take k) := by unfold oM; rw [List.map_take]
theorem take_rows {A : Mat} {b : Nat} (hr : ∀ i, i < A.length → (row A i).length ≤ b) (k : Nat) : ∀ i, i < (A.take k).length → (row (A.take k) i).length ≤ b := by
  intro i hi
  rw [List.length_take] at hi
  have e : row (A.take k) i = row A i := by
    unfold row
    rw [List.getD_eq_getElem?_getD, List.getElem?_take_of_lt (by omega), List.getD_eq_getElem?_getD]
  rw [e]
  exact hr i (by omega)
theorem evCheck3 (a b : Int) (ha : -9223372036854775808 ≤ a) (A : Mat) (hr : ∀ i, i < A.length → (row A i).length ≤ 140737488355327) : Ev (fun k => code_Check.f k a b (oM A)) (chkR a b A) := by
  have j1 : Ev (fun k => code_Check.j0 k a b (oM A) true) (false, 1) := Ev.step (f := fun _ => some (false, 1)) (fun k => by simp only [code_Check.j0, if_true]) (Ev.now _)
  unfold code_Check.f chkR
  refine Ev.bind (evCauchy a b ha) ?_
  rcases codeB_form a b with ⟨h1, k, m, rfl, rfl, hk, hm, h, e⟩ | ⟨h1, e⟩
  · rw [e]
    have hw : wrap64 ((k + m : Nat) : Int) = ((k + m : Nat) : Int) := w64 _ (by omega) (by omega)
    simp only [if_true, h1, true_and, hw, code_even_eq A ((k + m : Nat) : Int) (by omega), Option.bind_some, ← Int.natCast_add]
    cases h2 : evenB A ((k + m : Nat) : Int) with
    | false => simp only [Bool.not_false, Bool.false_eq_true, if_false]; exact j1
    | true =>
      have hA := (evenB_iff A (k + m)).1 h2
      simp only [Bool.not_true, if_true, Int.toNat_natCast]
      refine Ev.step (f := fun f => (code_Encode.f f (k : Int) (m : Int) (oM (A.take k))).bind fun bt110 => (code_same.f bt110.1 (oM A)).bind fun t114 => some (t114, 0)) (fun f => ?_) ?_
      · simp only [code_Check.j0, Bool.false_eq_true, if_false]
        rw [if_pos (by omega), if_pos (by rw [oM_length, hA.1]; omega), Int.toNat_natCast, take_oM3]
      · refine Ev.bind (evEncode (k : Int) (m : Int) (by omega) (A.take k) (take_rows hr k)) ?_
        unfold code_same.f
        exact Ev.now _
  · rw [e]
    simp only [h1, show ((1 : Int) = 0) = False from eq_false (by decide), if_false, Bool.false_eq_true, false_and]
    exact j1
end Go.Proofs.Ytbogmlckbkogiaa.Pure
namespace Go.Proofs.Ytbogmlckbkogiaa.P
open Go.Proofs.Ytbogmlckbkogiaa.Leaf
open Go.RowKit Go.Proofs.YtbogmlckbkogiaaW.PrintWords Go.Proofs.YtbogmlckbkogiaaW.PrintLast Go.Proofs.YtbogmlckbkogiaaW.PrintMore
attribute [local go_sem] max2_int min2_int max_two min_two max_three min_three max_four min_four   -- for this text's walks alone
set_option linter.unusedVariables false
set_option linter.unusedSimpArgs false
def mooringlaw03_count.l0 : Nat → List Bool → Int → Int → Option (Int)
  | 0, _, _, _ => none
  | k + 1, x0, x3, x4 => if x4 < (x0.length : Int) then (if 0 ≤ x4 then (if rdOf false x0 x4 = true then (mooringlaw03_count.l0 k x0 (wrap64 (x3 + 1)) (wrap64 (x4 + 1))) else (mooringlaw03_count.l0 k x0 x3 (wrap64 (x4 + 1)))) else (none)) else (some x3)
def mooringlaw03_count.f (k : Nat) (l0 : List Bool) : Option (Int) := mooringlaw03_count.l0 k l0 0 0
theorem mooringlaw03_count.mono_l : ∀ k, (∀ y0 y1 y2, LeO (mooringlaw03_count.l0 k y0 y1 y2) (mooringlaw03_count.l0 (k + 1) y0 y1 y2))
  | 0 => fun _ _ _ r h => by simp [mooringlaw03_count.l0] at h
  | k + 1 => by
    have ih0 := mooringlaw03_count.mono_l k
    · intro y0 y1 y2
      unfold mooringlaw03_count.l0
      repeat' first
      | (with_reducible exact ih0 _ _ _)
      | (with_reducible exact LeO.refl _)
      | (with_reducible exact LeO.none _)
      | (with_reducible refine LeO.ite ?_ ?_)
      | (with_reducible refine LeO.bind ?_ (fun _ => ?_))
      | exact ih0 _ _ _
      | exact LeO.none _
      | refine LeO.ite ?_ ?_
      | refine LeO.bind ?_ (fun _ => ?_)
theorem mooringlaw03_count.mono : ∀ a0 k, LeO (mooringlaw03_count.f k a0) (mooringlaw03_count.f (k + 1) a0) := by
  intro a0 k
  have ih0 := mooringlaw03_count.mono_l k
  unfold mooringlaw03_count.f
  repeat' first
      | (with_reducible exact ih0 _ _ _)
      | (with_reducible exact LeO.refl _)
      | (with_reducible exact LeO.none _)
      | (with_reducible refine LeO.ite ?_ ?_)
      | (with_reducible refine LeO.bind ?_ (fun _ => ?_))
      | exact ih0 _ _ _
      | exact LeO.none _
      | refine LeO.ite ?_ ?_
      | refine LeO.bind ?_ (fun _ => ?_)
end Go.Proofs.Ytbogmlckbkogiaa.P
namespace Go.Proofs.Ytbogmlckbkogiaa.P
open Go.Proofs.Ytbogmlckbkogiaa.H
open Go.Proofs.Ytbogmlckbkogiaa.Leaf
open Go.RowKit Go.Proofs.YtbogmlckbkogiaaW.PrintWords Go.Proofs.YtbogmlckbkogiaaW.PrintLast Go.Proofs.YtbogmlckbkogiaaW.PrintMore
attribute [local go_sem] max2_int min2_int max_two min_two max_three min_three max_four min_four   -- for this text's walks alone
set_option linter.unusedVariables false
set_option linter.unusedSimpArgs false
mutual
def mooringlaw03_CodeRefuses.j0 : Nat → Int → Int → List (List Int) → Int → Bool → Int → Int → List (List Int) → List Bool → Option (Bool)
  | 0, _, _, _, _, _, _, _, _, _ => none
  | k + 1, x0, x1, x7, x8, x9, x102000, x102001, x102002, x102003 => mooringlaw03_CodeRefuses.l0 k x0 x1 x7 x8 x9 (-1) 0 x102000 x102001 x102002 x102003
def mooringlaw03_CodeRefuses.l0 : Nat → Int → Int → List (List Int) → Int → Bool → Int → Int → Int → Int → List (List Int) → List Bool → Option (Bool)
  | 0, _, _, _, _, _, _, _, _, _, _, _ => none
  | k + 1, x0, x1, x7, x8, x9, x10, x11, x102000, x102001, x102002, x102003 => if x9 = true then (mooringlaw03_CodeRefuses.j2 k x0 x1 x7 x8 x9 x10 x11 (decide (x11 < (x102002.length : Int))) x102000 x102001 x102002 x102003) else (mooringlaw03_CodeRefuses.j2 k x0 x1 x7 x8 x9 x10 x11 false x102000 x102001 x102002 x102003)
def mooringlaw03_CodeRefuses.j2 : Nat → Int → Int → List (List Int) → Int → Bool → Int → Int → Bool → Int → Int → List (List Int) → List Bool → Option (Bool)
  | 0, _, _, _, _, _, _, _, _, _, _, _, _ => none
  | k + 1, x0, x1, x7, x8, x9, x10, x11, x61, x102000, x102001, x102002, x102003 => if x61 = true then (if 0 ≤ x11 then (if x11 < (x102003.length : Int) then (if rdOf false x102003 x11 = true then (if x10 < 0 then (if x11 < (x102002.length : Int) then (mooringlaw03_CodeRefuses.l0 k x0 x1 x7 x8 true ((rd_L1 x102002 x11).length : Int) (wrap64 (x11 + 1)) x102000 x102001 x102002 x102003) else (none)) else (if x11 < (x102002.length : Int) then (mooringlaw03_CodeRefuses.l0 k x0 x1 x7 x8 (x10 == ((rd_L1 x102002 x11).length : Int)) ((rd_L1 x102002 x11).length : Int) (wrap64 (x11 + 1)) x102000 x102001 x102002 x102003) else (none))) else (mooringlaw03_CodeRefuses.l0 k x0 x1 x7 x8 x9 x10 (wrap64 (x11 + 1)) x102000 x102001 x102002 x102003)) else (none)) else (none)) else (if x9 = true then ((mooringlaw03_count.f k x102003).bind fun t114 => (if t114 < x0 then (if x8 = 4 then (if (x7.length : Int) = 0 then ((mooringlaw03_awake.f k).bind fun t115 => (some t115)) else (some false)) else (some false)) else ((mooringref03_Check.f k x0 x1 x7).bind fun bt116 => (if x8 = 0 then (if bt116.2 = 0 then (mooringlaw03_CodeRefuses.j3 k x0 x7 (!bt116.1) x102000 x102001 x102002 x102003) else (mooringlaw03_CodeRefuses.j3 k x0 x7 true x102000 x102001 x102002 x102003)) else (mooringlaw03_CodeRefuses.j3 k x0 x7 true x102000 x102001 x102002 x102003))))) else (if x8 = 1 then (if (x7.length : Int) = 0 then ((mooringlaw03_awake.f k).bind fun t113 => (some t113)) else (some false)) else (some false)))
def mooringlaw03_CodeRefuses.j3 : Nat → Int → List (List Int) → Bool → Int → Int → List (List Int) → List Bool → Option (Bool)
  | 0, _, _, _, _, _, _, _ => none
  | k + 1, x0, x7, x130, x102000, x102001, x102002, x102003 => if x130 = true then (some false) else (mooringlaw03_CodeRefuses.l1 k x0 x7 0 0 x102000 x102001 x102002 x102003)
def mooringlaw03_CodeRefuses.l1 : Nat → Int → List (List Int) → Int → Int → Int → Int → List (List Int) → List Bool → Option (Bool)
  | 0, _, _, _, _, _, _, _, _ => none
  | k + 1, x0, x7, x14, x15, x102000, x102001, x102002, x102003 => if x15 < (x7.length : Int) then (if 0 ≤ x15 then (if x15 < (x102003.length : Int) then (if rdOf false x102003 x15 = true then (mooringlaw03_CodeRefuses.j5 k x0 x7 x14 x15 (decide (x14 < x0)) x102000 x102001 x102002 x102003) else (mooringlaw03_CodeRefuses.j5 k x0 x7 x14 x15 false x102000 x102001 x102002 x102003)) else (none)) else (none)) else ((mooringlaw03_awake.f k).bind fun t118 => (some t118))
def mooringlaw03_CodeRefuses.j5 : Nat → Int → List (List Int) → Int → Int → Bool → Int → Int → List (List Int) → List Bool → Option (Bool)
  | 0, _, _, _, _, _, _, _, _, _ => none
  | k + 1, x0, x7, x14, x15, x146, x102000, x102001, x102002, x102003 => if x146 = true then (if 0 ≤ x15 then (if x15 < (x7.length : Int) then (if x15 < (x102002.length : Int) then (if (strOfNums (rd_L1 x7 x15)).toList = (strOfNums (rd_L1 x102002 x15)).toList then (mooringlaw03_CodeRefuses.l1 k x0 x7 (wrap64 (x14 + 1)) (wrap64 (x15 + 1)) x102000 x102001 x102002 x102003) else (some false)) else (none)) else (none)) else (none)) else (mooringlaw03_CodeRefuses.l1 k x0 x7 x14 (wrap64 (x15 + 1)) x102000 x102001 x102002 x102003)
end
def mooringlaw03_CodeRefuses.f (k : Nat) (a0 : Int) (a1 : Int) (a2_0 : Int) (a2_1 : Int) (l2_2 : List (List Int)) (l2_3 : List Bool) : Option (Bool) := (mooringlaw03_light.f k a0 a1 l2_2).bind fun t102 => (if t102 = true then ((code_Decode.f a0 a1 l2_2 l2_3).bind fun bt104 => ((mooringref03_Code.f a0 a1).bind fun t108 => (if t108 = true then (if (l2_2.length : Int) = (l2_3.length : Int) then (mooringlaw03_CodeRefuses.j0 k a0 a1 bt104.1 bt104.2 ((l2_2.length : Int) == (wrap64 (a0 + a1))) a2_0 a2_1 l2_2 l2_3) else (mooringlaw03_CodeRefuses.j0 k a0 a1 bt104.1 bt104.2 false a2_0 a2_1 l2_2 l2_3)) else (mooringlaw03_CodeRefuses.j0 k a0 a1 bt104.1 bt104.2 false a2_0 a2_1 l2_2 l2_3)))) else ((mooringlaw03_awake.f k).bind fun t103 => (some t103)))
theorem mooringlaw03_CodeRefuses.mono_l : ∀ k, (∀ y0 y1 y2 y3 y4 y5 y6 y7 y8, LeO (mooringlaw03_CodeRefuses.j0 k y0 y1 y2 y3 y4 y5 y6 y7 y8) (mooringlaw03_CodeRefuses.j0 (k + 1) y0 y1 y2 y3 y4 y5 y6 y7 y8)) ∧ (∀ y0 y1 y2 y3 y4 y5 y6 y7 y8 y9 y10, LeO (mooringlaw03_CodeRefuses.l0 k y0 y1 y2 y3 y4 y5 y6 y7 y8 y9 y10) (mooringlaw03_CodeRefuses.l0 (k + 1) y0 y1 y2 y3 y4 y5 y6 y7 y8 y9 y10)) ∧ (∀ y0 y1 y2 y3 y4 y5 y6 y7 y8 y9 y10 y11, LeO (mooringlaw03_CodeRefuses.j2 k y0 y1 y2 y3 y4 y5 y6 y7 y8 y9 y10 y11) (mooringlaw03_CodeRefuses.j2 (k + 1) y0 y1 y2 y3 y4 y5 y6 y7 y8 y9 y10 y11)) ∧ (∀ y0 y1 y2 y3 y4 y5 y6, LeO (mooringlaw03_CodeRefuses.j3 k y0 y1 y2 y3 y4 y5 y6) (mooringlaw03_CodeRefuses.j3 (k + 1) y0 y1 y2 y3 y4 y5 y6)) ∧ (∀ y0 y1 y2 y3 y4 y5 y6 y7, LeO (mooringlaw03_CodeRefuses.l1 k y0 y1 y2 y3 y4 y5 y6 y7) (mooringlaw03_CodeRefuses.l1 (k + 1) y0 y1 y2 y3 y4 y5 y6 y7)) ∧ (∀ y0 y1 y2 y3 y4 y5 y6 y7 y8, LeO (mooringlaw03_CodeRefuses.j5 k y0 y1 y2 y3 y4 y5 y6 y7 y8) (mooringlaw03_CodeRefuses.j5 (k + 1) y0 y1 y2 y3 y4 y5 y6 y7 y8))
  | 0 => ⟨fun _ _ _ _ _ _ _ _ _ r h => by simp [mooringlaw03_CodeRefuses.j0] at h, fun _ _ _ _ _ _ _ _ _ _ _ r h => by simp [mooringlaw03_CodeRefuses.l0] at h, fun _ _ _ _ _ _ _ _ _ _ _ _ r h => by simp [mooringlaw03_CodeRefuses.j2] at h, fun _ _ _ _ _ _ _ r h => by simp [mooringlaw03_CodeRefuses.j3] at h, fun _ _ _ _ _ _ _ _ r h => by simp [mooringlaw03_CodeRefuses.l1] at h, fun _ _ _ _ _ _ _ _ _ r h => by simp [mooringlaw03_CodeRefuses.j5] at h⟩
  | k + 1 => by
    obtain ⟨ih0, ih1, ih2, ih3, ih4, ih5⟩ := mooringlaw03_CodeRefuses.mono_l k
    refine ⟨?_, ?_, ?_, ?_, ?_, ?_⟩
    · intro y0 y1 y2 y3 y4 y5 y6 y7 y8
      unfold mooringlaw03_CodeRefuses.j0
      repeat' first
      | (with_reducible exact ih0 _ _ _ _ _ _ _ _ _)
      | (with_reducible exact ih1 _ _ _ _ _ _ _ _ _ _ _)
      | (with_reducible exact ih2 _ _ _ _ _ _ _ _ _ _ _ _)
      | (with_reducible exact ih3 _ _ _ _ _ _ _)
      | (with_reducible exact ih4 _ _ _ _ _ _ _ _)
      | (with_reducible exact ih5 _ _ _ _ _ _ _ _ _)
      | (with_reducible exact mooringlaw03_awake.mono _)
      | (with_reducible exact mooringlaw03_count.mono _ _)
      | (with_reducible exact mooringlaw03_light.mono _ _ _ _)
      | (with_reducible exact mooringref03_Check.mono _ _ _ _)
      | (with_reducible exact LeO.refl _)
      | (with_reducible exact LeO.none _)
      | (with_reducible refine LeO.ite ?_ ?_)
      | (with_reducible refine LeO.bind ?_ (fun _ => ?_))
      | exact ih0 _ _ _ _ _ _ _ _ _
      | exact ih1 _ _ _ _ _ _ _ _ _ _ _
      | exact ih2 _ _ _ _ _ _ _ _ _ _ _ _
      | exact ih3 _ _ _ _ _ _ _
      | exact ih4 _ _ _ _ _ _ _ _
      | exact ih5 _ _ _ _ _ _ _ _ _
      | exact mooringlaw03_awake.mono _
      | exact mooringlaw03_count.mono _ _
      | exact mooringlaw03_light.mono _ _ _ _
      | exact mooringref03_Check.mono _ _ _ _
      | exact LeO.none _
      | refine LeO.ite ?_ ?_
      | refine LeO.bind ?_ (fun _ => ?_)
    · intro y0 y1 y2 y3 y4 y5 y6 y7 y8 y9 y10
      unfold mooringlaw03_CodeRefuses.l0
      repeat' first
      | (with_reducible exact ih0 _ _ _ _ _ _ _ _ _)
      | (with_reducible exact ih1 _ _ _ _ _ _ _ _ _ _ _)
      | (with_reducible exact ih2 _ _ _ _ _ _ _ _ _ _ _ _)
      | (with_reducible exact ih3 _ _ _ _ _ _ _)
      | (with_reducible exact ih4 _ _ _ _ _ _ _ _)
      | (with_reducible exact ih5 _ _ _ _ _ _ _ _ _)
      | (with_reducible exact mooringlaw03_awake.mono _)
      | (with_reducible exact mooringlaw03_count.mono _ _)
      | (with_reducible exact mooringlaw03_light.mono _ _ _ _)
      | (with_reducible exact mooringref03_Check.mono _ _ _ _)
      | (with_reducible exact LeO.refl _)
      | (with_reducible exact LeO.none _)
      | (with_reducible refine LeO.ite ?_ ?_)
      | (with_reducible refine LeO.bind ?_ (fun _ => ?_))
      | exact ih0 _ _ _ _ _ _ _ _ _
      | exact ih1 _ _ _ _ _ _ _ _ _ _ _
      | exact ih2 _ _ _ _ _ _ _ _ _ _ _ _
      | exact ih3 _ _ _ _ _ _ _
      | exact ih4 _ _ _ _ _ _ _ _
      | exact ih5 _ _ _ _ _ _ _ _ _
      | exact mooringlaw03_awake.mono _
      | exact mooringlaw03_count.mono _ _
      | exact mooringlaw03_light.mono _ _ _ _
      | exact mooringref03_Check.mono _ _ _ _
      | exact LeO.none _
      | refine LeO.ite ?_ ?_
      | refine LeO.bind ?_ (fun _ => ?_)
    · intro y0 y1 y2 y3 y4 y5 y6 y7 y8 y9 y10 y11
      unfold mooringlaw03_CodeRefuses.j2
      repeat' first
      | (with_reducible exact ih0 _ _ _ _ _ _ _ _ _)
      | (with_reducible exact ih1 _ _ _ _ _ _ _ _ _ _ _)
      | (with_reducible exact ih2 _ _ _ _ _ _ _ _ _ _ _ _)
      | (with_reducible exact ih3 _ _ _ _ _ _ _)
      | (with_reducible exact ih4 _ _ _ _ _ _ _ _)
      | (with_reducible exact ih5 _ _ _ _ _ _ _ _ _)
      | (with_reducible exact mooringlaw03_awake.mono _)
      | (with_reducible exact mooringlaw03_count.mono _ _)
      | (with_reducible exact mooringlaw03_light.mono _ _ _ _)
      | (with_reducible exact mooringref03_Check.mono _ _ _ _)
      | (with_reducible exact LeO.refl _)
      | (with_reducible exact LeO.none _)
      | (with_reducible refine LeO.ite ?_ ?_)
      | (with_reducible refine LeO.bind ?_ (fun _ => ?_))
      | exact ih0 _ _ _ _ _ _ _ _ _
      | exact ih1 _ _ _ _ _ _ _ _ _ _ _
      | exact ih2 _ _ _ _ _ _ _ _ _ _ _ _
      | exact ih3 _ _ _ _ _ _ _
      | exact ih4 _ _ _ _ _ _ _ _
      | exact ih5 _ _ _ _ _ _ _ _ _
      | exact mooringlaw03_awake.mono _
      | exact mooringlaw03_count.mono _ _
      | exact mooringlaw03_light.mono _ _ _ _
      | exact mooringref03_Check.mono _ _ _ _
      | exact LeO.none _
      | refine LeO.ite ?_ ?_
      | refine LeO.bind ?_ (fun _ => ?_)
    · intro y0 y1 y2 y3 y4 y5 y6
      unfold mooringlaw03_CodeRefuses.j3
      repeat' first
      | (with_reducible exact ih0 _ _ _ _ _ _ _ _ _)
      | (with_reducible exact ih1 _ _ _ _ _ _ _ _ _ _ _)
      | (with_reducible exact ih2 _ _ _ _ _ _ _ _ _ _ _ _)
      | (with_reducible exact ih3 _ _ _ _ _ _ _)
      | (with_reducible exact ih4 _ _ _ _ _ _ _ _)
      | (with_reducible exact ih5 _ _ _ _ _ _ _ _ _)
      | (with_reducible exact mooringlaw03_awake.mono _)
      | (with_reducible exact mooringlaw03_count.mono _ _)
      | (with_reducible exact mooringlaw03_light.mono _ _ _ _)
      | (with_reducible exact mooringref03_Check.mono _ _ _ _)
      | (with_reducible exact LeO.refl _)
      | (with_reducible exact LeO.none _)
      | (with_reducible refine LeO.ite ?_ ?_)
      | (with_reducible refine LeO.bind ?_ (fun _ => ?_))
      | exact ih0 _ _ _ _ _ _ _ _ _
      | exact ih1 _ _ _ _ _ _ _ _ _ _ _
      | exact ih2 _ _ _ _ _ _ _ _ _ _ _ _
      | exact ih3 _ _ _ _ _ _ _
      | exact ih4 _ _ _ _ _ _ _ _
      | exact ih5 _ _ _ _ _ _ _ _ _
      | exact mooringlaw03_awake.mono _
      | exact mooringlaw03_count.mono _ _
      | exact mooringlaw03_light.mono _ _ _ _
      | exact mooringref03_Check.mono _ _ _ _
      | exact LeO.none _
      | refine LeO.ite ?_ ?_
      | refine LeO.bind ?_ (fun _ => ?_)
    · intro y0 y1 y2 y3 y4 y5 y6 y7
      unfold mooringlaw03_CodeRefuses.l1
      repeat' first
      | (with_reducible exact ih0 _ _ _ _ _ _ _ _ _)
      | (with_reducible exact ih1 _ _ _ _ _ _ _ _ _ _ _)
      | (with_reducible exact ih2 _ _ _ _ _ _ _ _ _ _ _ _)
      | (with_reducible exact ih3 _ _ _ _ _ _ _)
      | (with_reducible exact ih4 _ _ _ _ _ _ _ _)
      | (with_reducible exact ih5 _ _ _ _ _ _ _ _ _)
      | (with_reducible exact mooringlaw03_awake.mono _)
      | (with_reducible exact mooringlaw03_count.mono _ _)
      | (with_reducible exact mooringlaw03_light.mono _ _ _ _)
      | (with_reducible exact mooringref03_Check.mono _ _ _ _)
      | (with_reducible exact LeO.refl _)
      | (with_reducible exact LeO.none _)
      | (with_reducible refine LeO.ite ?_ ?_)
      | (with_reducible refine LeO.bind ?_ (fun _ => ?_))
      | exact ih0 _ _ _ _ _ _ _ _ _
      | exact ih1 _ _ _ _ _ _ _ _ _ _ _
      | exact ih2 _ _ _ _ _ _ _ _ _ _ _ _
      | exact ih3 _ _ _ _ _ _ _
      | exact ih4 _ _ _ _ _ _ _ _
      | exact ih5 _ _ _ _ _ _ _ _ _
      | exact mooringlaw03_awake.mono _
      | exact mooringlaw03_count.mono _ _
      | exact mooringlaw03_light.mono _ _ _ _
      | exact mooringref03_Check.mono _ _ _ _
      | exact LeO.none _
      | refine LeO.ite ?_ ?_
      | refine LeO.bind ?_ (fun _ => ?_)
    · intro y0 y1 y2 y3 y4 y5 y6 y7 y8
      unfold mooringlaw03_CodeRefuses.j5
      repeat' first
      | (with_reducible exact ih0 _ _ _ _ _ _ _ _ _)
      | (with_reducible exact ih1 _ _ _ _ _ _ _ _ _ _ _)
      | (with_reducible exact ih2 _ _ _ _ _ _ _ _ _ _ _ _)
      | (with_reducible exact ih3 _ _ _ _ _ _ _)
      | (with_reducible exact ih4 _ _ _ _ _ _ _ _)
      | (with_reducible exact ih5 _ _ _ _ _ _ _ _ _)
      | (with_reducible exact mooringlaw03_awake.mono _)
      | (with_reducible exact mooringlaw03_count.mono _ _)
      | (with_reducible exact mooringlaw03_light.mono _ _ _ _)
      | (with_reducible exact mooringref03_Check.mono _ _ _ _)
      | (with_reducible exact LeO.refl _)
      | (with_reducible exact LeO.none _)
      | (with_reducible refine LeO.ite ?_ ?_)
      | (with_reducible refine LeO.bind ?_ (fun _ => ?_))
      | exact ih0 _ _ _ _ _ _ _ _ _
      | exact ih1 _ _ _ _ _ _ _ _ _ _ _
      | exact ih2 _ _ _ _ _ _ _ _ _ _ _ _
      | exact ih3 _ _ _ _ _ _ _
      | exact ih4 _ _ _ _ _ _ _ _
      | exact ih5 _ _ _ _ _ _ _ _ _
      | exact mooringlaw03_awake.mono _
      | exact mooringlaw03_count.mono _ _
      | exact mooringlaw03_light.mono _ _ _ _
      | exact mooringref03_Check.mono _ _ _ _
      | exact LeO.none _
      | refine LeO.ite ?_ ?_
      | refine LeO.bind ?_ (fun _ => ?_)
theorem mooringlaw03_CodeRefuses.mono : ∀ a0 a1 a2 a3 a4 a5 k, LeO (mooringlaw03_CodeRefuses.f k a0 a1 a2 a3 a4 a5) (mooringlaw03_CodeRefuses.f (k + 1) a0 a1 a2 a3 a4 a5) := by
  intro a0 a1 a2 a3 a4 a5 k
  obtain ⟨ih0, ih1, ih2, ih3, ih4, ih5⟩ := mooringlaw03_CodeRefuses.mono_l k
  unfold mooringlaw03_CodeRefuses.f
  repeat' first
      | (with_reducible exact ih0 _ _ _ _ _ _ _ _ _)
      | (with_reducible exact ih1 _ _ _ _ _ _ _ _ _ _ _)
      | (with_reducible exact ih2 _ _ _ _ _ _ _ _ _ _ _ _)
      | (with_reducible exact ih3 _ _ _ _ _ _ _)
      | (with_reducible exact ih4 _ _ _ _ _ _ _ _)
      | (with_reducible exact ih5 _ _ _ _ _ _ _ _ _)
      | (with_reducible exact mooringlaw03_awake.mono _)
      | (with_reducible exact mooringlaw03_count.mono _ _)
      | (with_reducible exact mooringlaw03_light.mono _ _ _ _)
      | (with_reducible exact mooringref03_Check.mono _ _ _ _)
      | (with_reducible exact LeO.refl _)
      | (with_reducible exact LeO.none _)
      | (with_reducible refine LeO.ite ?_ ?_)
      | (with_reducible refine LeO.bind ?_ (fun _ => ?_))
      | exact ih0 _ _ _ _ _ _ _ _ _
      | exact ih1 _ _ _ _ _ _ _ _ _ _ _
      | exact ih2 _ _ _ _ _ _ _ _ _ _ _ _
      | exact ih3 _ _ _ _ _ _ _
      | exact ih4 _ _ _ _ _ _ _ _
      | exact ih5 _ _ _ _ _ _ _ _ _
      | exact mooringlaw03_awake.mono _
      | exact mooringlaw03_count.mono _ _
      | exact mooringlaw03_light.mono _ _ _ _
      | exact mooringref03_Check.mono _ _ _ _
      | exact LeO.none _
      | refine LeO.ite ?_ ?_
      | refine LeO.bind ?_ (fun _ => ?_)
end Go.Proofs.Ytbogmlckbkogiaa.P
namespace Go.Proofs.Ytbogmlckbkogiaa.Pure
open Go.RowKit Go.Proofs.YtbogmlckbkogiaaW.PrintWords Go.Proofs.Ytbogmlckbkogiaa.Leaf Go.Proofs.Ytbogmlckbkogiaa.P Go.Proofs.Ytbogmlckbkogiaa.Gf Go.Proofs.Ytbogmlckbkogiaa.Red Go.Proofs.Ytbogmlckbkogiaa.H Go.Proofs.Ytbogmlckbkogiaa.Mx
set_option linter.unusedSimpArgs false
set_option linter.unusedVariables false
/-- A codeword is told to be one. -/
theorem chk_code {k m p : Nat} (hk : 1 ≤ k) (hm : 1 ≤ m) (h : k + m ≤ 255) {Y : Mat} (hY : Reg Y k p) (e : (mulM (cauM k m) Y).take k = Y) (hc : codeB (k : Int) (m : Int) = true) : chkR (k : Int) (m : Int) (mulM (cauM k m) Y) = (true, 0) := by
  have hD := mulM_reg (cauM_reg k m) hY hk
  have h0 : (row (mulM (cauM k m) Y) 0).length = p := hD.2 0 (by omega)
  have hY0 : (row Y 0).length = p := hY.2 0 (by omega)
  have e1 : evenB (mulM (cauM k m) Y) ((k : Int) + (m : Int)) = true := by
    rw [← Int.natCast_add]
    exact (evenB_iff _ _).2 (by rw [h0]; exact hD)
  have e2 : evenB Y (k : Int) = true := (evenB_iff _ _).2 (by rw [hY0]; exact hY)
  unfold chkR
  rw [if_pos ⟨hc, e1⟩, Int.toNat_natCast, e]
  unfold encR
  rw [if_pos ⟨hc, e2⟩, Int.toNat_natCast, Int.toNat_natCast]
  rw [beq_self_eq_true]
end Go.Proofs.Ytbogmlckbkogiaa.Pure
namespace Go.Proofs.Ytbogmlckbkogiaa.Pure
open Go.RowKit Go.Proofs.YtbogmlckbkogiaaW.PrintWords Go.Proofs.Ytbogmlckbkogiaa.Leaf Go.Proofs.Ytbogmlckbkogiaa.P Go.Proofs.Ytbogmlckbkogiaa.Gf Go.Proofs.Ytbogmlckbkogiaa.Red Go.Proofs.Ytbogmlckbkogiaa.H Go.Proofs.Ytbogmlckbkogiaa.Mx
set_option linter.unusedSimpArgs false
set_option linter.unusedVariables false
/-- The difference of two rows. -/
def xorL (O F : List B) : List B := am O F 1#8 O.length
theorem xorL_length (O F : List B) : (xorL O F).length = O.length := am_length _ _ _ _
theorem at0_xorL (O F : List B) (j : Nat) (hj : j < O.length) : at0 (xorL O F) j = at0 O j ^^^ at0 F j := by
  unfold xorL
  rw [am_at _ _ _ _ hj, mul_one]
/-- The parity shards' differences, the first r of them. -/
def dM (k m i : Nat) (T : List B) (r : Nat) : Mat := (List.range r).map fun p => (List.range T.length).map fun b => mul (at0 T b) (el (cauM k m) (k + p) i)
theorem dM_reg (k m i : Nat) (T : List B) (r : Nat) : Reg (dM k m i T r) r T.length := ⟨by simp [dM], fun p hp => by unfold dM; rw [row_map _ _ _ hp]; simp⟩
theorem row_dM (k m i : Nat) (T : List B) (r p : Nat) (hp : p < r) : row (dM k m i T r) p = (List.range T.length).map fun b => mul (at0 T b) (el (cauM k m) (k + p) i) := by
  unfold dM
  rw [row_map _ _ _ hp]
theorem am_dM (k m i p : Nat) (T : List B) : am (List.replicate T.length 0#8) T (el (cauM k m) (k + p) i) (List.replicate T.length 0#8).length = (List.range T.length).map fun b => mul (at0 T b) (el (cauM k m) (k + p) i) := by
  refine ext0 (by rw [am_length]; simp) fun j hj => ?_
  rw [am_length, List.length_replicate] at hj
  rw [am_at _ _ _ _ (by rw [List.length_replicate]; exact hj), at0_map _ _ _ hj]
  have e : at0 (List.replicate T.length 0#8) j = 0#8 := by
    unfold at0
    simp [List.getD_eq_getElem?_getD, hj]
  rw [e, BitVec.zero_xor]
theorem dM_snoc (k m i : Nat) (T : List B) (r : Nat) : dM k m i T r ++ [(List.range T.length).map fun b => mul (at0 T b) (el (cauM k m) (k + r) i)] = dM k m i T (r + 1) := by
  unfold dM
  rw [List.range_succ, List.map_append]
  rfl
theorem row_drop (A : Mat) (k i : Nat) : row (A.drop k) i = row A (k + i) := by
  unfold row
  rw [List.getD_eq_getElem?_getD, List.getElem?_drop, List.getD_eq_getElem?_getD]
theorem oM_drop (A : Mat) (k : Nat) : (oM A).drop k = oM (A.drop k) := by unfold oM; rw [List.map_drop]
theorem delta_l0 {k m i : Nat} (hk : 1 ≤ k) (h : k + m ≤ 255) (hi : i < k) (T : List B) (hT : T.length < 2 ^ 48) (d : Nat) : ∀ p : Nat, p + d = m →
    Ev (fun f => code_Delta.l0 f (i : Int) (ofL T) (oM (dM k m i T p)) (oM ((cauM k m).drop k)) (m : Int) (p : Int)) (oM (dM k m i T m), 0) := by
  have hC := cauM_reg k m
  have hl : ((cauM k m).drop k).length = m := by rw [List.length_drop, hC.1]; omega
  induction d with
  | zero =>
    intro p hp
    obtain rfl : p = m := by omega
    refine Ev.step (f := fun _ => some (oM (dM k p i T p), 0)) (fun f => ?_) (Ev.now _)
    simp only [code_Delta.l0]
    rw [if_neg (by omega)]
  | succ d ih =>
    intro p hp
    have hr : row ((cauM k m).drop k) p = row (cauM k m) (k + p) := row_drop _ _ _
    have hrl : (row (cauM k m) (k + p)).length = k := hC.2 _ (by omega)
    refine Ev.step (f := fun f => (gf_AddMul.f f (ofL (List.replicate T.length 0#8)) (ofL T) (ofB (el (cauM k m) (k + p) i))).bind fun bt118 => code_Delta.l0 f (i : Int) (ofL T) (oM (dM k m i T p) ++ [bt118.1]) (oM ((cauM k m).drop k)) (m : Int) ((p + 1 : Nat) : Int)) (fun f => ?_) ?_
    · simp only [code_Delta.l0, ofL_length, oM_length, rd_oM, hr, Int.toNat_natCast, ofL_replicate]
      rw [if_pos (by omega), if_pos (by omega), if_pos (by rw [hl]; omega), if_pos (by omega), if_pos (by omega), if_pos (by omega), if_pos (by rw [hrl]; omega), w64 ((p : Int) + 1) (by omega) (by omega), rd_ofL]
      simp only [show (dM k m i T p).length < 5864062014805 from by rw [(dM_reg k m i T p).1]; omega, if_true]
      rfl
    · refine Ev.bind (gfAddMul _ _ _ (by rw [List.length_replicate]; omega)) ?_
      unfold addMulB
      rw [if_pos (List.length_replicate ..), am_dM]
      show Ev (fun f => code_Delta.l0 f (i : Int) (ofL T) (oM (dM k m i T p) ++ oM [_]) (oM ((cauM k m).drop k)) (m : Int) ((p + 1 : Nat) : Int)) _
      rw [oM_append, dM_snoc]
      exact ih (p + 1) (by omega)
def deltaR (a b i : Int) (O F : List B) : List (List Int) × Int := if codeB a b = true ∧ 0 ≤ i ∧ i < a ∧ O.length = F.length then (oM (dM a.toNat b.toNat i.toNat (xorL O F) b.toNat), 0) else ([], 1)
theorem evDelta (a b i : Int) (ha : -9223372036854775808 ≤ a) (O F : List B) (hO : O.length < 2 ^ 48) : Ev (fun f => code_Delta.f f a b i (ofL O) (ofL F)) (deltaR a b i O F) := by
  have no : ∀ (x0 : Int) X Y, Ev (fun f => code_Delta.j0 f x0 i X Y true) (([] : List (List Int)), (1 : Int)) := fun x0 X Y =>
    Ev.step (f := fun _ => some ([], 1)) (fun f => by simp only [code_Delta.j0, if_true]) (Ev.now _)
  unfold code_Delta.f deltaR
  refine Ev.bind (evCauchy a b ha) ?_
  refine Ev.bind (gfAddMul O F 1#8 hO) ?_
  rcases codeB_form a b with ⟨h1, k, m, rfl, rfl, hk, hm, h, e⟩ | ⟨h1, e⟩
  · simp only [e, h1, if_true, true_and]
    by_cases h2 : i < 0
    · rw [if_neg (by omega)]
      simp only [if_pos h2]
      exact no _ _ _
    · simp only [if_neg h2]
      by_cases h3 : i ≥ (k : Int)
      · rw [if_neg (by omega)]
        simp only [if_pos h3]
        exact no _ _ _
      · simp only [if_neg h3]
        unfold addMulB
        by_cases h4 : O.length = F.length
        · simp only [if_pos h4, Bool.not_true]
          rw [if_pos ⟨by omega, by omega, h4⟩]
          obtain ⟨n, rfl⟩ := Int.eq_ofNat_of_zero_le (show 0 ≤ i by omega)
          simp only [Int.toNat_natCast]
          have hC := cauM_reg k m
          have hl : ((cauM k m).drop k).length = m := by rw [List.length_drop, hC.1]; omega
          have := delta_l0 (k := k) (m := m) (i := n) hk h (by omega) (xorL O F) (by rw [xorL_length]; exact hO) m 0 (by omega)
          refine Ev.step (f := fun f => code_Delta.l0 f (n : Int) (ofL (xorL O F)) (oM (dM k m n (xorL O F) 0)) (oM ((cauM k m).drop k)) (m : Int) ((0 : Nat) : Int)) (fun f => ?_) this
          simp only [code_Delta.j0, Bool.false_eq_true, if_false]
          rw [if_pos (by omega), if_pos (by rw [oM_length, hC.1]; omega), Option.bind_some, Int.toNat_natCast, oM_drop, oM_length, hl]
          rfl
        · simp only [if_neg h4, Bool.not_false]
          rw [if_neg (fun hh => h4 hh.2.2)]
          exact no _ _ _
  · simp only [e, h1, Bool.false_eq_true, false_and, if_false, show ((1 : Int) = 0) = False from eq_false (by decide)]
    exact no _ _ _
/-- The first r shards behind a turn. -/
def apM (k i : Nat) (S : Mat) (F : List B) (D : Mat) (r : Nat) : Mat := (List.range r).map fun j => if j = i then F else if k ≤ j then xorL (row S j) (row D (j - k)) else row S j
theorem apM_snoc (k i : Nat) (S : Mat) (F : List B) (D : Mat) (r : Nat) : apM k i S F D r ++ [if r = i then F else if k ≤ r then xorL (row S r) (row D (r - k)) else row S r] = apM k i S F D (r + 1) := by
  unfold apM
  rw [List.range_succ, List.map_append]
  rfl
theorem apM_length (k i : Nat) (S : Mat) (F : List B) (D : Mat) (r : Nat) : (apM k i S F D r).length = r := by simp [apM]
theorem clone_eq (L : List B) (h : L.length < 140737488355328) : slices_Clone_byte_byte.f (ofL L) = some (ofL L) := by
  unfold slices_Clone_byte_byte.f
  rw [ofL_length, if_pos h]
theorem apply_l0 {k m p i : Nat} (hk : 1 ≤ k) (h : k + m ≤ 255) {S : Mat} (hS : Reg S (k + m) p) {F : List B} (hF : F.length < 140737488355328) (hp : p < 140737488355328) {D : Mat} (hD : Reg D m p) (d : Nat) : ∀ j : Nat, j + d = k + m →
    Ev (fun f => code_Apply.l0 f (k : Int) (i : Int) (ofL F) (oM D) (oM (apM k i S F D j)) (oM S) ((k + m : Nat) : Int) (j : Int)) (oM (apM k i S F D (k + m)), 0) := by
  induction d with
  | zero =>
    intro j hj
    obtain rfl : j = k + m := by omega
    refine Ev.step (f := fun _ => some (oM (apM k i S F D (k + m)), 0)) (fun f => ?_) (Ev.now _)
    simp only [code_Apply.l0]
    rw [if_neg (by omega)]
  | succ d ih =>
    intro j hj
    have hjl : (row S j).length = p := hS.2 j (by omega)
    have hn := ih (j + 1) (by omega)
    rw [← apM_snoc] at hn
    have lim : (oM (apM k i S F D j)).length < 5864062014805 := by rw [oM_length, apM_length]; omega
    have wj : wrap64 ((j : Int) + 1) = ((j + 1 : Nat) : Int) := w64 _ (by omega) (by omega)
    by_cases h1 : j = i
    · rw [if_pos h1] at hn
      refine Ev.step (f := fun f => code_Apply.l0 f (k : Int) (i : Int) (ofL F) (oM D) (oM (apM k i S F D j ++ [F])) (oM S) ((k + m : Nat) : Int) ((j + 1 : Nat) : Int)) (fun f => ?_) hn
      simp only [code_Apply.l0]
      rw [if_pos (by omega), if_pos (by omega), if_pos (by rw [oM_length, hS.1]; omega), if_pos (by omega), clone_eq _ hF, Option.bind_some, if_pos lim, wj, oM_one, oM_append]
    · rw [if_neg h1] at hn
      by_cases h2 : k ≤ j
      · rw [if_pos h2] at hn
        have wk : wrap64 ((j : Int) - (k : Int)) = ((j - k : Nat) : Int) := by rw [w64 _ (by omega) (by omega)]; omega
        have hdl : (row D (j - k)).length = p := hD.2 _ (by omega)
        refine Ev.step (f := fun f => (gf_AddMul.f f (ofL (row S j)) (ofL (row D (j - k))) 1).bind fun bt116 => code_Apply.l0 f (k : Int) (i : Int) (ofL F) (oM D) (oM (apM k i S F D j) ++ [bt116.1]) (oM S) ((k + m : Nat) : Int) ((j + 1 : Nat) : Int)) (fun f => ?_) ?_
        · simp only [code_Apply.l0]
          rw [if_pos (by omega), if_pos (by omega), if_pos (by rw [oM_length, hS.1]; omega), if_neg (by omega), if_pos (by omega), wk, if_pos (by omega), if_pos (by rw [oM_length, hD.1]; omega), rd_oM, rd_oM, wj]
          simp only [lim, if_true]
        · refine Ev.bind (gfAddMul (row S j) (row D (j - k)) 1#8 (by omega)) ?_
          unfold addMulB
          rw [if_pos (by rw [hjl, hdl])]
          show Ev (fun f => code_Apply.l0 f (k : Int) (i : Int) (ofL F) (oM D) (oM (apM k i S F D j) ++ oM [_]) (oM S) ((k + m : Nat) : Int) ((j + 1 : Nat) : Int)) _
          rw [oM_append]
          exact hn
      · rw [if_neg h2] at hn
        refine Ev.step (f := fun f => code_Apply.l0 f (k : Int) (i : Int) (ofL F) (oM D) (oM (apM k i S F D j ++ [row S j])) (oM S) ((k + m : Nat) : Int) ((j + 1 : Nat) : Int)) (fun f => ?_) hn
        simp only [code_Apply.l0]
        rw [if_pos (by omega), if_pos (by omega), if_pos (by rw [oM_length, hS.1]; omega), if_neg (by omega), if_neg (by omega), rd_oM, clone_eq _ (by omega), Option.bind_some, if_pos lim, wj, oM_one, oM_append]
/-- Apply on a codeword. -/
theorem evApply {k m p : Nat} (hk : 1 ≤ k) (hm : 1 ≤ m) (h : k + m ≤ 255) (hc : codeB (k : Int) (m : Int) = true) {X : Mat} (hX : Reg X k p) (hp : p < 140737488355328) (i : Int) (F : List B) (hF : F.length < 140737488355328) :
    Ev (fun f => code_Apply.f f (k : Int) (m : Int) (oM (mulM (cauM k m) X)) i (ofL F)) (if 0 ≤ i ∧ i < (k : Int) ∧ p = F.length then (oM (apM k i.toNat (mulM (cauM k m) X) F (dM k m i.toNat (xorL (row X i.toNat) F) m) (k + m)), 0) else ([], 1)) := by
  have hL := mulM_reg (cauM_reg k m) hX hk
  have htake : (mulM (cauM k m) X).take k = X := by rw [mulM_take (cauM_reg k m) hX hk (Nat.le_add_right k m), cauM_take, mulM_id hX hk]
  have hrow : ∀ j, j < k → row (mulM (cauM k m) X) j = row X j := fun j hj => by rw [← row_take3 _ k j hj, htake]
  have hchk := chk_code hk hm h hX htake hc
  generalize mulM (cauM k m) X = L at *
  have no : Ev (fun f => code_Apply.j0 f (k : Int) (m : Int) (oM L) i (ofL F) true) (([] : List (List Int)), (1 : Int)) :=
    Ev.step (f := fun _ => some ([], 1)) (fun f => by simp only [code_Apply.j0, if_true]) (Ev.now _)
  unfold code_Apply.f
  refine Ev.bind (evCheck3 (k : Int) (m : Int) (by omega) L (fun i hi => by rw [hL.2 i (by rw [← hL.1]; exact hi)]; omega)) ?_
  simp only [hchk, if_true]
  by_cases h2 : i < 0
  · rw [if_neg (by omega)]
    simp only [if_pos h2]
    exact no
  · simp only [if_neg h2]
    by_cases h3 : i ≥ (k : Int)
    · rw [if_neg (by omega), decide_eq_true h3]
      exact no
    · rw [decide_eq_false h3]
      obtain ⟨n, rfl⟩ := Int.eq_ofNat_of_zero_le (show 0 ≤ i by omega)
      have hn : n < k := by omega
      refine Ev.step (f := fun f => (code_Delta.f f (k : Int) (m : Int) (n : Int) (ofL (row L n)) (ofL F)).bind fun bt104 => (if bt104.2 = 0 then (code_Apply.l0 f (k : Int) (n : Int) (ofL F) bt104.1 ([] : List (List Int)) (oM L) ((oM L).length : Int) 0) else (some (([] : List (List Int)), bt104.2)))) (fun f => ?_) ?_
      · simp only [code_Apply.j0, Bool.false_eq_true, if_false]
        rw [if_pos (by omega), if_pos (by rw [oM_length, hL.1]; omega), rd_oM]
      · refine Ev.bind (evDelta (k : Int) (m : Int) (n : Int) (by omega) (row L n) F (by rw [hL.2 n (by omega)]; omega)) ?_
        unfold deltaR
        rw [hrow n hn, hX.2 n hn]
        by_cases h4 : p = F.length
        · rw [if_pos ⟨hc, by omega, by omega, h4⟩, if_pos ⟨by omega, by omega, h4⟩]
          simp only [if_true, Int.toNat_natCast, oM_length, hL.1]
          have hD := dM_reg k m n (xorL (row X n) F) m
          rw [xorL_length, hX.2 n hn] at hD
          exact apply_l0 hk h hL hF hp hD (k + m) 0 (by omega)
        · rw [if_neg (fun hh => h4 hh.2.2.2), if_neg (fun hh => h4 hh.2.2)]
          simp only [show ((1 : Int) = 0) = False from eq_false (by decide), if_false]
          exact Ev.now _
/-- The codeword of the turned data: elementwise. -/
theorem el_set {X : Mat} {k p i : Nat} (hX : Reg X k p) (hi : i < k) (F : List B) (l b : Nat) (hb : b < p) : el (X.set i F) l b = el X l b ^^^ (if l = i then at0 (xorL (row X i) F) b else 0#8) := by
  unfold el
  by_cases h : l = i
  · subst h
    have e : row (X.set l F) l = F := by
      unfold row
      rw [List.getD_eq_getElem?_getD, List.getElem?_set, if_pos rfl, if_pos (by rw [hX.1]; exact hi)]
      rfl
    rw [if_pos rfl, e, at0_xorL _ _ _ (by rw [hX.2 l hi]; exact hb), ← BitVec.xor_assoc, BitVec.xor_self, BitVec.zero_xor]
  · have e : row (X.set i F) l = row X l := by
      unfold row
      rw [List.getD_eq_getElem?_getD, List.getElem?_set, if_neg (fun e => h e.symm), List.getD_eq_getElem?_getD]
    rw [if_neg h, e, BitVec.xor_zero]
theorem set_reg {X : Mat} {k p i : Nat} (hX : Reg X k p) {F : List B} (hF : F.length = p) : Reg (X.set i F) k p := by
  refine ⟨by rw [List.length_set]; exact hX.1, fun l hl => ?_⟩
  unfold row
  rw [List.getD_eq_getElem?_getD, List.getElem?_set]
  by_cases h : i = l
  · subst h
    rw [if_pos rfl, if_pos (by rw [hX.1]; exact hl)]
    exact hF
  · rw [if_neg h, ← List.getD_eq_getElem?_getD]
    exact hX.2 l hl
theorem el_turned {k m p i : Nat} (hk : 1 ≤ k) {X : Mat} (hX : Reg X k p) (hi : i < k) {F : List B} (hF : F.length = p) (j b : Nat) (hj : j < k + m) (hb : b < p) :
    el (mulM (cauM k m) (X.set i F)) j b = el (mulM (cauM k m) X) j b ^^^ mul (at0 (xorL (row X i) F) b) (el (cauM k m) j i) := by
  rw [el_mulM (cauM_reg k m) (set_reg hX hF) hk hj hb, el_mulM (cauM_reg k m) hX hk hj hb]
  unfold mm
  rw [sm_congr (g := fun l => mul (el (cauM k m) j l) (el X l b) ^^^ mul (el (cauM k m) j l) (if l = i then at0 (xorL (row X i) F) b else 0#8)) (fun l hl => by rw [el_set hX hi F l b hb, mul_add]), sm_add]
  rw [sm_single (i := i) (f := fun l => mul (el (cauM k m) j l) (if l = i then at0 (xorL (row X i) F) b else 0#8)) hi (fun l hl hne => by rw [if_neg hne, mul_zero])]
  rw [if_pos rfl, mul_comm (el (cauM k m) j i)]
theorem apM_turned {k m p i : Nat} (hk : 1 ≤ k) {X : Mat} (hX : Reg X k p) (hi : i < k) {F : List B} (hF : F.length = p) :
    apM k i (mulM (cauM k m) X) F (dM k m i (xorL (row X i) F) m) (k + m) = mulM (cauM k m) (X.set i F) := by
  have hL := mulM_reg (cauM_reg k m) hX hk
  have hL' := mulM_reg (cauM_reg k m) (set_reg (i := i) hX hF) hk
  have hD := dM_reg k m i (xorL (row X i) F) m
  rw [xorL_length, hX.2 i hi] at hD
  have hr : ∀ j, j < k + m → row (apM k i (mulM (cauM k m) X) F (dM k m i (xorL (row X i) F) m) (k + m)) j = if j = i then F else if k ≤ j then xorL (row (mulM (cauM k m) X) j) (row (dM k m i (xorL (row X i) F) m) (j - k)) else row (mulM (cauM k m) X) j := fun j hj => by
    unfold apM
    rw [row_map _ _ _ hj]
  have htop : ∀ {Y : Mat}, Reg Y k p → ∀ j, j < k → row (mulM (cauM k m) Y) j = row Y j := fun hY j hj => by
    rw [← row_take3 _ k j hj, mulM_take (cauM_reg k m) hY hk (Nat.le_add_right k m), cauM_take, mulM_id hY hk]
  have hrow : ∀ j, j < k + m → row (apM k i (mulM (cauM k m) X) F (dM k m i (xorL (row X i) F) m) (k + m)) j = row (mulM (cauM k m) (X.set i F)) j := fun j hj => by
    rw [hr j hj]
    by_cases h1 : j = i
    · subst h1
      rw [if_pos rfl, htop (set_reg hX hF) j hi]
      unfold row
      rw [List.getD_eq_getElem?_getD, List.getElem?_set, if_pos rfl, if_pos (by rw [hX.1]; exact hi)]
      rfl
    · rw [if_neg h1]
      by_cases h2 : k ≤ j
      · rw [if_pos h2]
        refine ext0 (by rw [xorL_length, hL.2 j hj, hL'.2 j hj]) fun b hb => ?_
        rw [xorL_length] at hb
        have hb' : b < p := by rw [← hL.2 j hj]; exact hb
        have e1 := el_turned hk hX hi hF j b hj hb'
        unfold el at e1
        rw [e1, at0_xorL _ _ _ hb, row_dM _ _ _ _ _ _ (by omega), at0_map _ _ _ (by rw [xorL_length, hX.2 i hi]; exact hb'), show k + (j - k) = j by omega]
        rfl
      · rw [if_neg h2, htop hX j (by omega), htop (set_reg hX hF) j (by omega)]
        refine Eq.symm ?_
        unfold row
        rw [List.getD_eq_getElem?_getD, List.getElem?_set, if_neg (fun e => h1 e.symm), List.getD_eq_getElem?_getD]
  refine mat_ext (n := k + m) (m := p) ⟨apM_length .., fun j hj => by rw [hrow j hj]; exact hL'.2 j hj⟩ hL' fun j b hj hb => ?_
  unfold el
  rw [hrow j hj]
end Go.Proofs.Ytbogmlckbkogiaa.Pure
namespace Go.Proofs.Ytbogmlckbkogiaa.Pure
open Go.RowKit Go.Proofs.YtbogmlckbkogiaaW.PrintWords Go.Proofs.Ytbogmlckbkogiaa.Leaf Go.Proofs.Ytbogmlckbkogiaa.P Go.Proofs.Ytbogmlckbkogiaa.Gf Go.Proofs.Ytbogmlckbkogiaa.Red Go.Proofs.Ytbogmlckbkogiaa.H Go.Proofs.Ytbogmlckbkogiaa.Mx
set_option linter.unusedSimpArgs false
set_option linter.unusedVariables false
theorem turn_l1 {k m p : Nat} (F : List B) (hF : F.length = p) (hp : p ≤ 140737488351232) (hkm : k + m ≤ 255) (L L' D : Mat) (hL : Reg L (k + m) p) (hL' : Reg L' (k + m) p) (hD : Reg D m p) (hel : ∀ q b, q < m → b < p → el D q b = el L' (k + q) b ^^^ el L (k + q) b)
    (X : List (List Int)) (H : List Bool) (q : Nat) (hq : q < m) (hnext : Ev (fun f => mooringlaw03_CodeTurns.l0 f (ofL F) (oM L) (oM L') (oM D) ((q + 1 : Nat) : Int) (k : Int) (m : Int) X H) true) (d : Nat) : ∀ b : Nat, b + d = p →
    Ev (fun f => mooringlaw03_CodeTurns.l1 f (ofL F) (oM L) (oM L') (oM D) (q : Int) (b : Int) (k : Int) (m : Int) X H) true := by
  induction d with
  | zero =>
    intro b hb
    obtain rfl : b = p := by omega
    refine Ev.step (fun f => ?_) hnext
    simp only [mooringlaw03_CodeTurns.l1, ofL_length]
    rw [if_neg (by omega), w64 ((q : Int) + 1) (by omega) (by omega)]
    rfl
  | succ d ih =>
    intro b hb
    have wk : wrap64 ((k : Int) + (q : Int)) = ((k + q : Nat) : Int) := by rw [w64 _ (by omega) (by omega)]; omega
    have h1 := hL.2 (k + q) (by omega)
    have h2 := hL'.2 (k + q) (by omega)
    have h3 := hD.2 q hq
    have h4 := hel q b hq (by omega)
    refine Ev.step (f := fun f => mooringlaw03_CodeTurns.l1 f (ofL F) (oM L) (oM L') (oM D) (q : Int) ((b + 1 : Nat) : Int) (k : Int) (m : Int) X H) (fun f => ?_) (ih (b + 1) (by omega))
    simp only [mooringlaw03_CodeTurns.l1, ofL_length, oM_length, rd_oM, wk]
    rw [if_pos (by omega), if_pos (by omega), if_pos (by rw [hD.1]; omega), if_pos (by omega), if_pos (by omega), if_pos (by omega), if_pos (by rw [hL'.1]; omega), if_pos (by omega), if_pos (by rw [hL.1]; omega), if_pos (by omega)]
    rw [rd_ofL, rd_ofL, rd_ofL, xor_ofB, if_pos (by unfold el at h4; rw [h4]), w64 ((b : Int) + 1) (by omega) (by omega)]
    rfl
theorem turn_l0 {k m p : Nat} (F : List B) (hF : F.length = p) (hp : p ≤ 140737488351232) (hkm : k + m ≤ 255) (L L' D : Mat) (hL : Reg L (k + m) p) (hL' : Reg L' (k + m) p) (hD : Reg D m p) (hel : ∀ q b, q < m → b < p → el D q b = el L' (k + q) b ^^^ el L (k + q) b)
    (X : List (List Int)) (H : List Bool) (d : Nat) : ∀ q : Nat, q + d = m → Ev (fun f => mooringlaw03_CodeTurns.l0 f (ofL F) (oM L) (oM L') (oM D) (q : Int) (k : Int) (m : Int) X H) true := by
  induction d with
  | zero =>
    intro q hq
    refine Ev.step (f := fun f => (mooringlaw03_awake.f f).bind fun t136 => (some t136)) (fun f => ?_) (Ev.bind evAwake03 (Ev.now _))
    simp only [mooringlaw03_CodeTurns.l0]
    rw [if_neg (by omega)]
  | succ d ih =>
    intro q hq
    refine Ev.step (f := fun f => mooringlaw03_CodeTurns.l1 f (ofL F) (oM L) (oM L') (oM D) (q : Int) ((0 : Nat) : Int) (k : Int) (m : Int) X H) (fun f => ?_) (turn_l1 F hF hp hkm L L' D hL hL' hD hel X H q (by omega) (ih (q + 1) (by omega)) p 0 (by omega))
    simp only [mooringlaw03_CodeTurns.l0, ofL_length, oM_length, rd_oM]
    rw [if_pos (by omega), if_pos (by omega), if_pos (by rw [hD.1]; omega), if_pos (by rw [hD.2 q (by omega), hF])]
    rfl
theorem CodeTurns (K : Int) (wK : (Lit.int .i64 K).wf = true) (M : Int) (wM : (Lit.int .i64 M).wf = true) (X : Mat) (hs : X.length * 24 ≤ 140737488351232) (hr : ∀ i, i < X.length → (row X i).length ≤ 140737488351232) (H : List Bool) (hH : H.length ≤ 140737488351232)
    (i : Int) (wi : (Lit.int .i64 i).wf = true) (l : List Int) (hm : l.length ≤ maxLen) (hl : l.length * 1 ≤ 140737488351232) (hw : ∀ x ∈ l, (Lit.int .u8 x).wf = true) : Ev (fun k => mooringlaw03_CodeTurns.f k K M (oM X) H i l) true := by
  have ha := bounds_i64 wK
  obtain ⟨F, rfl⟩ := row_of hw
  rw [ofL_length] at hl
  unfold mooringlaw03_CodeTurns.f
  refine Ev.bind (evRefEncode K M ha.1 X (by omega) (fun i hi => by have := hr i hi; omega)) ?_
  have no : ∀ Z, Ev (fun k => mooringlaw03_CodeTurns.j0 k i (ofL F) Z true K M (oM X) H) true := fun Z =>
    Ev.step (f := fun k => (mooringlaw03_awake.f k).bind fun t107 => (some t107)) (fun k => by simp only [mooringlaw03_CodeTurns.j0, if_true]) (Ev.bind evAwake03 (Ev.now _))
  unfold encR
  by_cases hc : codeB K M = true ∧ evenB X K = true
  · rw [if_pos hc]
    simp only [if_true]
    obtain ⟨t, ht⟩ := evLight03 K M (oM (mulM (cauM K.toNat M.toNat) X))
    refine Ev.bind ht ?_
    cases t with
    | false => exact no _
    | true =>
      rcases codeB_form K M with ⟨h1, k, m, rfl, rfl, hk, hm2, h, e⟩ | ⟨h1, e⟩
      · simp only [Int.toNat_natCast, Bool.not_true]
        have hX := (evenB_iff X k).1 hc.2
        have hp := hr 0 (by have := hX.1; omega)
        generalize (row X 0).length = p at hX hp
        have hL := mulM_reg (cauM_reg k m) hX hk
        have hA := evApply hk hm2 h h1 hX (by omega) i F (by omega)
        have hrow : ∀ j, j < k → row (mulM (cauM k m) X) j = row X j := fun j hj => by
          rw [← row_take3 _ k j hj, mulM_take (cauM_reg k m) hX hk (Nat.le_add_right k m), cauM_take, mulM_id hX hk]
        have hL0 : (row (mulM (cauM k m) X) 0).length = p := hL.2 0 (by omega)
        have hd0 := evDelta (k : Int) (m : Int) i ha.1 (row (mulM (cauM k m) X) 0) F (by omega)
        have bad : deltaR (k : Int) (m : Int) i (row (mulM (cauM k m) X) 0) F = ([], 1) → Ev (fun f => mooringlaw03_CodeTurns.j1 f i (ofL F) (oM (mulM (cauM k m) X)) 1 [] true (k : Int) (m : Int) (oM X) H) true := by
          intro hd
          refine Ev.step (f := fun f => (code_Delta.f f (k : Int) (m : Int) i (ofL (row (mulM (cauM k m) X) 0)) (ofL F)).bind fun bt114 => (if bt114.2 = 1 then ((mooringlaw03_awake.f f).bind fun t118 => (some t118)) else (none))) (fun f => ?_) ?_
          · simp only [mooringlaw03_CodeTurns.j1, if_true]
            rw [if_pos (by rw [oM_length, hL.1]; omega), rd_oM0]
            rfl
          · rw [hd] at hd0
            refine Ev.bind hd0 ?_
            simp only [if_true]
            exact Ev.bind evAwake03 (Ev.now _)
        refine Ev.step (f := fun f => (code_Apply.f f (k : Int) (m : Int) (oM (mulM (cauM k m) X)) i (ofL F)).bind fun bt108 => (if i < 0 then (mooringlaw03_CodeTurns.j1 f i (ofL F) (oM (mulM (cauM k m) X)) bt108.2 bt108.1 true (k : Int) (m : Int) (oM X) H) else (if i ≥ (k : Int) then (mooringlaw03_CodeTurns.j1 f i (ofL F) (oM (mulM (cauM k m) X)) bt108.2 bt108.1 true (k : Int) (m : Int) (oM X) H) else (mooringlaw03_CodeTurns.j1 f i (ofL F) (oM (mulM (cauM k m) X)) bt108.2 bt108.1 ((F.length : Int) != ((p : Nat) : Int)) (k : Int) (m : Int) (oM X) H)))) (fun f => ?_) ?_
        · simp only [mooringlaw03_CodeTurns.j0, Bool.false_eq_true, if_false]
          simp only [show (0 < ((oM (mulM (cauM k m) X)).length : Int)) = True from eq_true (by rw [oM_length, hL.1]; omega), if_true, rd_oM0, ofL_length, hL0]
        · refine Ev.bind hA ?_
          by_cases h2 : i < 0
          · rw [if_neg (by omega)]
            simp only [if_pos h2]
            exact bad (by unfold deltaR; rw [if_neg (by omega)])
          · simp only [if_neg h2]
            by_cases h3 : i ≥ (k : Int)
            · rw [if_neg (by omega)]
              simp only [if_pos h3]
              exact bad (by unfold deltaR; rw [if_neg (by omega)])
            · simp only [if_neg h3]
              by_cases h4 : p = F.length
              · rw [if_pos ⟨by omega, by omega, h4⟩, show ((F.length : Int) != ((p : Nat) : Int)) = false from bne_eq_false_iff_eq.mpr (by omega)]
                obtain ⟨n, rfl⟩ := Int.eq_ofNat_of_zero_le (show 0 ≤ i by omega)
                simp only [Int.toNat_natCast]
                have hn : n < k := by omega
                rw [apM_turned hk hX hn h4.symm]
                have hX' := set_reg (i := n) hX h4.symm
                have hL' := mulM_reg (cauM_reg k m) hX' hk
                have hev : evenB (X.set n F) (k : Int) = true := (evenB_iff _ k).2 (by rw [hX'.2 0 (by omega)]; exact hX')
                have hDl : (xorL (row X n) F).length = p := by rw [xorL_length, hX.2 n hn]
                have hD := dM_reg k m n (xorL (row X n) F) m
                rw [hDl] at hD
                refine Ev.step (f := fun f => (mooringref03_Encode.f f (k : Int) (m : Int) (oM (X.set n F))).bind fun bt126 => (code_Delta.f f (k : Int) (m : Int) (n : Int) (ofL (row X n)) (ofL F)).bind fun bt131 => (if bt131.2 = 0 then ((mooringref02_Same.f f (oM (mulM (cauM k m) (X.set n F))) bt126.1).bind fun t135 => (if t135 = true then (mooringlaw03_CodeTurns.j2 f (ofL F) (oM (mulM (cauM k m) X)) bt126.1 bt131.1 ((bt131.1.length : Int) != (m : Int)) (k : Int) (m : Int) (oM X) H) else (mooringlaw03_CodeTurns.j2 f (ofL F) (oM (mulM (cauM k m) X)) bt126.1 bt131.1 true (k : Int) (m : Int) (oM X) H))) else (mooringlaw03_CodeTurns.j2 f (ofL F) (oM (mulM (cauM k m) X)) bt126.1 bt131.1 true (k : Int) (m : Int) (oM X) H))) (fun f => ?_) ?_
                · simp only [mooringlaw03_CodeTurns.j1, Bool.false_eq_true, if_false, Option.bind_some, List.nil_append, List.length_nil, Nat.zero_add, if_true]
                  rw [if_pos (by rw [oM_length]; omega), if_pos (by omega), if_pos (by rw [oM_length, hX.1]; omega)]
                  simp only [show ((n : Int) < ((oM X).length : Int)) = True from eq_true (by rw [oM_length, hX.1]; omega), if_true, rd_oM, Int.toNat_natCast, oM_set]
                · have hX'l := hX'.1
                  refine Ev.bind (evRefEncode (k : Int) (m : Int) ha.1 (X.set n F) (by omega) (fun j hj => by rw [hX'.2 j (by omega)]; omega)) ?_
                  refine Ev.bind (evDelta (k : Int) (m : Int) (n : Int) ha.1 (row X n) F (by rw [hX.2 n hn]; omega)) ?_
                  unfold encR deltaR
                  rw [if_pos (show codeB (k : Int) (m : Int) = true ∧ evenB (X.set n F) (k : Int) = true from ⟨h1, hev⟩), if_pos (show codeB (k : Int) (m : Int) = true ∧ 0 ≤ (n : Int) ∧ (n : Int) < (k : Int) ∧ (row X n).length = F.length from ⟨h1, by omega, by omega, by rw [hX.2 n hn]; exact h4⟩)]
                  simp only [Int.toNat_natCast, if_true]
                  refine Ev.bind (evSame (mulM (cauM k m) (X.set n F)) (mulM (cauM k m) (X.set n F)) (by rw [hL'.1]; omega)) ?_
                  simp only [decide_true, if_true, oM_length, hD.1, show ((m : Int) != (m : Int)) = false from bne_eq_false_iff_eq.mpr rfl]
                  refine Ev.step (f := fun f => mooringlaw03_CodeTurns.l0 f (ofL F) (oM (mulM (cauM k m) X)) (oM (mulM (cauM k m) (X.set n F))) (oM (dM k m n (xorL (row X n) F) m)) ((0 : Nat) : Int) (k : Int) (m : Int) (oM X) H) (fun f => by simp only [mooringlaw03_CodeTurns.j2, Bool.false_eq_true, if_false]; rfl) ?_
                  refine turn_l0 F h4.symm hp h _ _ _ hL hL' hD (fun q b hq hb => ?_) (oM X) H m 0 (by omega)
                  rw [el_turned hk hX hn h4.symm (k + q) b (by omega) hb]
                  have e5 : el (dM k m n (xorL (row X n) F) m) q b = mul (at0 (xorL (row X n) F) b) (el (cauM k m) (k + q) n) := by
                    unfold el
                    rw [row_dM _ _ _ _ _ _ hq, at0_map _ _ _ (by rw [hDl]; exact hb)]
                    rfl
                  rw [e5, BitVec.xor_comm (el (mulM (cauM k m) X) (k + q) b), BitVec.xor_assoc, BitVec.xor_self, BitVec.xor_zero]
              · rw [if_neg (fun hh => h4 hh.2.2), show ((F.length : Int) != ((p : Nat) : Int)) = true from bne_iff_ne.mpr (by omega)]
                exact bad (by unfold deltaR; rw [if_neg (fun hh => h4 (by rw [← hL0]; exact hh.2.2.2))])
      · rw [h1] at hc
        cases hc.1
  · rw [if_neg hc]
    exact no _
end Go.Proofs.Ytbogmlckbkogiaa.Pure
namespace Go.Proofs.Ytbogmlckbkogiaa.H
open Go.RowKit Go.Proofs.YtbogmlckbkogiaaW.PrintWords Go.Proofs.YtbogmlckbkogiaaW.PrintLast Go.Proofs.Ytbogmlckbkogiaa.Leaf Go.Proofs.Ytbogmlckbkogiaa.Gf Go.Proofs.Ytbogmlckbkogiaa.Red Go.Proofs.Ytbogmlckbkogiaa.P
set_option linter.unusedVariables false
set_option linter.unusedSimpArgs false
theorem C_rows_of (w : World) (ad : Addr) (xs : List (List Int)) (As : Nat → Option Addr) (cs : Nat → Nat) (hl : xs.length ≤ 9223372036854775807)
    (h : ∀ j, j < xs.length → w.cell? (ad.add j) = some (.slice (As j) (xs.getD j []).length (cs j)) ∧ (xs.getD j []).length ≤ cs j ∧ Kd.C (Kd.int .u8) w (As j) (xs.getD j []).length (xs.getD j [])) : Kd.C KR w (some ad) xs.length xs := by
  refine ⟨rfl, hl, fun _ => ⟨ad, rfl, fun j p hj => ?_⟩⟩
  obtain ⟨hlt, hp⟩ := List.getElem?_eq_some_iff.1 hj
  have hd : xs.getD j [] = p := by rw [List.getD_eq_getElem?_getD, hj]; rfl
  obtain ⟨h1, h2, h3⟩ := h j hlt
  rw [hd] at h1 h2 h3
  refine ⟨[.slice (As j) p.length (cs j)], rfl, ⟨As j, cs j, rfl, h2, h3⟩, fun i u hu => ?_⟩
  cases i with
  | zero =>
    cases hu
    show w.cell? (ad.add (j * 1 + 0)) = _
    rw [Nat.mul_one, Nat.add_zero]
    exact h1
  | succ i => simp at hu
def mooringlaw02_awake.f : Option Bool := some true
end Go.Proofs.Ytbogmlckbkogiaa.H
namespace Go.Proofs.Ytbogmlckbkogiaa.H
open Go.RowKit Go.ChangeShapes Go.WideShapes Go.Deep Go.Proofs.YtbogmlckbkogiaaW.PrintWords Go.Proofs.Ytbogmlckbkogiaa.Leaf Go.Proofs.Ytbogmlckbkogiaa.Gf Go.Proofs.Ytbogmlckbkogiaa.Red
set_option linter.unusedVariables false
theorem rows_weights {H : Type} {P : Program} {e : TypeId} : ∀ {l : List (DataW H)} {d : DataW H}, d ∈ l → ∀ n ∈ d.weights P e, n ∈ DataW.weightsAll P e l
  | d0 :: l, d, hd, n, hn => by
    simp only [DataW.weightsAll, List.mem_append]
    rcases List.mem_cons.1 hd with rfl | hd
    · exact Or.inl hn
    · exact Or.inr (rows_weights hd n hn)
theorem u8_range {x : Int} (h : (Lit.int .u8 x).wf = true) : 0 ≤ x ∧ x < 256 := by
  have h1 : 0 ≤ x ∧ x ≤ 255 := by simpa [Lit.wf, IntKind.min, IntKind.max, IntKind.signed, IntKind.bits] using h
  omega
theorem rows_arg {H : Type} {enc : TypeId × Value → H} {W : World} {a : Option Addr} {len cap : Nat} {d : DataW H} {ps : List MemPlace} (h : DataW.Trod enc Try.prog W 0 (fun _ => true) true 51 (.slice a len cap) d ps) (hw : ∀ x ∈ d.weights Try.prog 51, x ≤ reachBytes) :
    ∃ M : Mat, len = M.length ∧ len ≤ cap ∧ Kd.C KR W a len (oM M) ∧ len * 24 ≤ 140737488351232 ∧ ∀ i, i < M.length → (row M i).length ≤ 140737488351232 := by
  obtain ⟨fuel, hf⟩ := h
  rcases open_int_rows Try.underlying51 Try.underlying22 Try.underlying5 (by kernel_rfl) (by kernel_rfl) hf with ⟨hcs, _⟩ | ⟨a', len', cap', A, L, C, Z, hcs, _, hl, hm, hx, hrow⟩
  · simp [Value.cells] at hcs
    obtain ⟨rfl, rfl, rfl⟩ := hcs
    exact ⟨[], rfl, Nat.le_refl _, Kd.C_nil _ _, by decide, fun i hi => absurd hi (Nat.not_lt_zero _)⟩
  · simp [Value.cells] at hcs
    obtain ⟨rfl, rfl, rfl⟩ := hcs
    obtain ⟨rfl, _⟩ := Prod.mk.inj hx
    have hlen : len ≤ 9223372036854775807 := by unfold maxLen at hm; omega
    let M : Mat := (List.range len).map fun r => ((Z r).take (L r)).map toB
    have hML : M.length = len := by simp [M]
    have hMr : ∀ r, r < len → row M r = ((Z r).take (L r)).map toB := fun r hr => row_map len (fun r => ((Z r).take (L r)).map toB) r hr
    have hlr : ∀ r, r < len → (row M r).length = L r := by
      intro r hr
      obtain ⟨_, h1, _, h2, _⟩ := hrow r (by omega)
      rw [hMr r hr, List.length_map, List.length_take, h2]
      omega
    have hof : ∀ r, r < len → ofL (row M r) = (Z r).take (L r) := by
      intro r hr
      obtain ⟨_, _, _, _, hz, _⟩ := hrow r (by omega)
      rw [hMr r hr]
      unfold ofL
      rw [List.map_map]
      refine (List.map_congr_left fun x hx => ?_).trans (List.map_id' _)
      have := u8_range (hz x (List.mem_of_mem_take hx))
      exact ofB_toB x this.1 this.2
    refine ⟨M, hML.symm, hl, ?_, ?_, fun r hr => ?_⟩
    · have hC := C_rows_of W a' (oM M) A C (by rw [oM_length, hML]; exact hlen) (fun r hr => by
        rw [oM_length, hML] at hr
        obtain ⟨hc, h1, h2, h3, h4, h5, h6⟩ := hrow r (by omega)
        have e : (oM M).getD r [] = ofL (row M r) := map_getD M r
        rw [e, ofL_length, hlr r hr]
        refine ⟨hc, h1, by rw [ofL_length, hlr r hr], by unfold maxLen at h2; omega, fun hp => ?_⟩
        cases hA : A r with
        | none => have := h5 hA; omega
        | some ad =>
          obtain ⟨_, h7⟩ := h6 ad hA
          refine ⟨ad, rfl, fun j p hj => ⟨[.int .u8 p], rfl, rfl, fun i u hu => ?_⟩⟩
          cases i with
          | zero =>
            cases hu
            show W.cell? (ad.add (j * 1 + 0)) = _
            rw [Nat.mul_one, Nat.add_zero]
            have hj' := (List.getElem?_eq_some_iff.1 hj).1
            rw [ofL_length, hlr r hr] at hj'
            rw [h7 j (by omega)]
            rw [hof r hr, List.getElem?_take, if_pos hj'] at hj
            rw [List.getD_eq_getElem?_getD, hj]
            rfl
          | succ i => simp at hu)
      rw [oM_length, hML] at hC
      exact hC
    · have h1 : ((len + (cap - len)) * 24) ∈ (DataW.slice ((List.range len).map fun r => intRow (H := H) .u8 (A r) (L r) (Z r)) ((List.range (cap - len)).map fun j => intRow .u8 (A (len + j)) (L (len + j)) (Z (len + j)))).weights Try.prog 51 := by
        simp only [DataW.weights, Try.underlying51, List.length_map, List.length_range]
        rw [show Try.prog.bytesOf 22 = 24 by kernel_rfl]
        exact List.mem_cons_self
      have h2 := hw _ h1
      have : reachBytes = 140737488351232 := by decide
      omega
    · rw [hML] at hr
      obtain ⟨hc, h1, h2, h3, h4, h5, h6⟩ := hrow r (by omega)
      rw [hlr r hr]
      cases hA : A r with
      | none => have := h5 hA; omega
      | some ad =>
        have hmem : intRow (H := H) .u8 (A r) (L r) (Z r) ∈ (List.range len).map fun r => intRow (H := H) .u8 (A r) (L r) (Z r) := List.mem_map.2 ⟨r, List.mem_range.2 hr, rfl⟩
        have hin := hw (((lits (H := H) .u8 ((Z r).take (L r))).length + (lits (H := H) .u8 ((Z r).drop (L r))).length) * 1) (by
          simp only [DataW.weights, Try.underlying51]
          refine List.mem_cons_of_mem _ (List.mem_append_left _ (rows_weights hmem _ ?_))
          rw [hA]
          simp only [intRow, DataW.weights, Try.underlying22]
          rw [show Try.prog.bytesOf 5 = 1 by kernel_rfl]
          exact List.mem_cons_self)
        have : reachBytes = 140737488351232 := by decide
        simp [lits] at hin
        omega
end Go.Proofs.Ytbogmlckbkogiaa.H
namespace Go.Proofs.Ytbogmlckbkogiaa.H
open Go.RowKit Go.ChangeShapes Go.WideShapes Go.Deep Go.Joins Go.Proofs.YtbogmlckbkogiaaW.PrintWords Go.Proofs.Ytbogmlckbkogiaa.Leaf Go.Proofs.Ytbogmlckbkogiaa.Gf Go.Proofs.Ytbogmlckbkogiaa.Red
set_option linter.unusedVariables false
theorem bools_arg {H : Type} {enc : TypeId × Value → H} {W : World} {a : Option Addr} {len cap : Nat} {d : DataW H} {ps : List MemPlace} (h : DataW.Trod enc Try.prog W 0 (fun _ => true) true 78 (.slice a len cap) d ps) (hw : ∀ x ∈ d.weights Try.prog 78, x ≤ reachBytes) :
    ∃ B : List Bool, len = B.length ∧ len ≤ cap ∧ Kd.C Kd.bool W a len B ∧ len ≤ 140737488351232 := by
  obtain ⟨fuel, hf⟩ := h
  rcases open_bools Try.underlying78 Try.underlying4 (by kernel_rfl) hf with ⟨hcs, _⟩ | ⟨a', len', cap', B, hcs, _, hl, hm, hx, hcell⟩
  · simp [Value.cells] at hcs
    obtain ⟨rfl, rfl, rfl⟩ := hcs
    exact ⟨[], rfl, Nat.le_refl _, Kd.C_nil _ _, by decide⟩
  · simp [Value.cells] at hcs
    obtain ⟨rfl, rfl, rfl⟩ := hcs
    obtain ⟨rfl, _⟩ := Prod.mk.inj hx
    refine ⟨(List.range len).map B, by simp, hl, ?_, ?_⟩
    · refine Kd.C_of_reads (d := false) ⟨by simp, by unfold maxLen at hm; omega, fun h0 => ⟨a', rfl, fun j hj => ?_⟩⟩
      rw [hcell j (by omega), List.getD_eq_getElem?_getD, List.getElem?_map, List.getElem?_range hj]
      rfl
    · have hx := hw ((len + (cap - len)) * Try.prog.bytesOf 4) (by simp [boolRow, DataW.weights, Try.underlying78])
      rw [show Try.prog.bytesOf 4 = 1 by kernel_rfl] at hx
      unfold reachBytes at hx
      omega
set_option maxRecDepth 100000 in
theorem lost_arg {H : Type} {enc : TypeId × Value → H} {W : World} {r : Reach} {b0 : Nat} {v : Value} {d : DataW H} {ps : List MemPlace} (hv : Value.okWide Try.prog W r b0 82 v) (h : DataW.Trod enc Try.prog W 0 (fun _ => true) true 82 v d ps) (hw : ∀ x ∈ d.weights Try.prog 82, x ≤ reachBytes) :
    ∃ (K M : Int) (A : Option Addr) (c : Nat) (X : Mat) (A' : Option Addr) (c' : Nat) (B : List Bool), v = .agg #[.int .i64 K, .int .i64 M, .slice A (oM X).length c, .slice A' B.length c'] ∧ (Lit.int .i64 K).wf = true ∧ (Lit.int .i64 M).wf = true ∧
      Kd.C KR W A (oM X).length (oM X) ∧ (oM X).length ≤ c ∧ X.length * 24 ≤ 140737488351232 ∧ (∀ i, i < X.length → (row X i).length ≤ 140737488351232) ∧ Kd.C Kd.bool W A' B.length B ∧ B.length ≤ c' ∧ B.length ≤ 140737488351232 := by
  obtain ⟨v0, v1, v2, v3, y0, y1, y2, y3, n, rfl, rfl, rfl, h0, h1, h2, h3⟩ := open_agg4 Try.underlying82 (by kernel_rfl) (by kernel_rfl) hv h
  obtain ⟨K, e0, e0', wK⟩ := DataW.trod_int (k := .i64) Try.underlying3 h0
  obtain ⟨M, e1, e1', wM⟩ := DataW.trod_int (k := .i64) Try.underlying3 h1
  obtain rfl : v0 = .int .i64 K := by simpa using e0
  obtain rfl : v1 = .int .i64 M := by simpa using e1
  have hs2 : ∃ a len cap, v2 = .slice a len cap := by
    rcases open_slice Try.underlying51 h2 with ⟨hc, _⟩ | ⟨a, len, cap, _, _, _, _, hc, _⟩
    · exact ⟨none, 0, 0, by simpa using hc⟩
    · exact ⟨some a, len, cap, by simpa using hc⟩
  have hs3 : ∃ a len cap, v3 = .slice a len cap := by
    rcases open_slice Try.underlying78 h3 with ⟨hc, _⟩ | ⟨a, len, cap, _, _, _, _, hc, _⟩
    · exact ⟨none, 0, 0, by simpa using hc⟩
    · exact ⟨some a, len, cap, by simpa using hc⟩
  obtain ⟨A, l2, c2, rfl⟩ := hs2
  obtain ⟨A', l3, c3, rfl⟩ := hs3
  have hw2 : ∀ x ∈ y2.1.weights Try.prog 51, x ≤ reachBytes := fun x hx => hw x (by
    simp only [DataW.weights, Try.underlying82]
    exact DataW.weights_mem_each (j := 2) rfl rfl x hx)
  have hw3 : ∀ x ∈ y3.1.weights Try.prog 78, x ≤ reachBytes := fun x hx => hw x (by
    simp only [DataW.weights, Try.underlying82]
    exact DataW.weights_mem_each (j := 3) rfl rfl x hx)
  obtain ⟨X, hl, hc, hC, hs, hr⟩ := rows_arg (d := y2.1) (ps := y2.2) ⟨n, h2⟩ hw2
  obtain ⟨B, hl', hc', hC', hs'⟩ := bools_arg (d := y3.1) (ps := y3.2) ⟨n, h3⟩ hw3
  subst hl hl'
  rw [← oM_length X] at hc hC
  exact ⟨K, M, A, c2, X, A', c3, B, by rw [oM_length], wK, wM, hC, hc, hs, hr, hC', hc', hs'⟩
end Go.Proofs.Ytbogmlckbkogiaa.H
