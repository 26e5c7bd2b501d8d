/- Words and walks that the claim CodeDecodes leans on (what it does not use is left out). -/
import Derived.Test.YtbogmlckbkogiaaMCodeDecodes6
import Derived.Test.YtbogmlckbkogiaaMCodeDecodes7
import Derived.Test.YtbogmlckbkogiaaMCodeDecodes2
import Derived.Test.YtbogmlckbkogiaaMCodeDecodes1
import Derived.Test.YtbogmlckbkogiaaMCodeDecodes3
import Derived.OpenShut
import Derived.Test.YtbogmlckbkogiaaMCodeDecodes8
import Derived.Test.YtbogmlckbkogiaaMCodeDecodes5
import Derived.Test.YtbogmlckbkogiaaMCodeDecodes4
import Derived.Deep.Matrix
import Derived.SizedLaws
import Derived.ChangeSlices
import Derived.Deep.Grids
import Derived.Lib.SmallJoins
namespace Go.Proofs.Ytbogmlckbkogiaa.Red
open Go.RowKit Go.Proofs.YtbogmlckbkogiaaW.PrintWords Go.Proofs.Ytbogmlckbkogiaa.Leaf Go.Proofs.Ytbogmlckbkogiaa.Gf Go.Proofs.Ytbogmlckbkogiaa.H Go.Proofs.Ytbogmlckbkogiaa.Mx Go.Proofs.Ytbogmlckbkogiaa.P
set_option linter.unusedVariables false
set_option linter.unusedSimpArgs false
set_option maxRecDepth 100000
theorem aw_enc : encR 2 1 [[5#8], [7#8]] = (oM [[5#8], [7#8], row (mulM (cauM 2 1) [[5#8], [7#8]]) 2], 0) := by decide +kernel
theorem aw_one : (row (mulM (cauM 2 1) [[5#8], [7#8]]) 2).length = 1 := by decide +kernel
theorem aw_dec : (decR 2 1 [[], [7#8], row (mulM (cauM 2 1) [[5#8], [7#8]]) 2] [false, true, true]).2 = 0 ∧ (decR 2 1 [[], [7#8], row (mulM (cauM 2 1) [[5#8], [7#8]]) 2] [false, true, true]).1.length = 3 ∧ (rd_L1 (decR 2 1 [[], [7#8], row (mulM (cauM 2 1) [[5#8], [7#8]]) 2] [false, true, true]).1 0).length = 1 ∧ rd (rd_L1 (decR 2 1 [[], [7#8], row (mulM (cauM 2 1) [[5#8], [7#8]]) 2] [false, true, true]).1 0) 0 = 5 := by decide +kernel
theorem code_Decode.f_oM (k m : Int) (hk : -9223372036854775808 ≤ k) (A : Mat) (hr : ∀ i, i < A.length → (row A i).length ≤ 140737488355327) (H : List Bool) : code_Decode.f k m (oM A) H = some (decR k m A H) := by
  unfold code_Decode.f
  rw [if_pos, unM_oM]
  refine ⟨bytes_oM A, hk, ?_⟩
  rw [List.all_eq_true]
  intro x hx
  obtain ⟨r, hr2, rfl⟩ := List.mem_map.1 hx
  obtain ⟨i, hi, rfl⟩ := List.mem_iff_getElem.1 hr2
  have e : row A i = A[i] := by unfold row; rw [List.getD_eq_getElem?_getD, List.getElem?_eq_getElem hi]; rfl
  rw [ofL_length, ← e]
  exact decide_eq_true (hr i hi)
theorem evAwake03 : Ev (fun k => mooringlaw03_awake.f k) true := by
  unfold mooringlaw03_awake.f
  have e : ([([5] : List Int), ([7] : List Int)] : List (List Int)) = oM [[5#8], [7#8]] := by decide +kernel
  rw [e]
  refine Ev.bind (evEncode 2 1 (by decide) _ (by intro i hi; match i, hi with | 0, _ => decide | 1, _ => decide)) ?_
  rw [aw_enc]
  have h1 := aw_one
  have h2 := aw_dec
  generalize row (mulM (cauM 2 1) [[5#8], [7#8]]) 2 = R at *
  have e2 : (oM [[5#8], [7#8], R]).set (0 : Int).toNat ([] : List Int) = oM [[], [7#8], R] := rfl
  have hd := code_Decode.f_oM 2 1 (by decide) [[], [7#8], R] (by
    intro i hi
    match i, hi with
    | 0, _ => exact Nat.zero_le _
    | 1, _ => exact (show (1 : Nat) ≤ 140737488355327 by omega)
    | 2, _ => show R.length ≤ _; omega) [false, true, true]
  have e3 : (rd_L1 (oM [[5#8], [7#8], R]) 2).length = 1 := by show (ofL R).length = 1; rw [ofL_length]; exact h1
  simp only [e2, hd, e3, Option.bind_some]
  generalize decR 2 1 [[], [7#8], R] [false, true, true] = D at *
  obtain ⟨d1, d2, d3, d4⟩ := h2
  refine Ev.step (f := fun _ => some true) (fun k => ?_) (Ev.now _)
  simp only [d1, d2, d3, d4]
  rfl
theorem light_stop (a b : Int) (x : Int) : ∃ t, (if x ≤ 6000 then ((mooringref03_Code.f a b).bind fun t102 => (if t102 = true then (some (decide ((wrap64 (a * (wrap64 (a + b)))) ≤ 2500))) else (some true))) else (some false)) = some t := by
  by_cases h : x ≤ 6000
  · rw [if_pos h]
    unfold mooringref03_Code.f
    repeat' split
    all_goals first | exact ⟨_, rfl⟩ | (rw [Option.bind_some]; split <;> exact ⟨_, rfl⟩)
  · rw [if_neg h]
    exact ⟨_, rfl⟩
theorem light_l0 (a b : Int) (l : List (List Int)) (d : Nat) : ∀ (i : Nat) (x : Int), i ≤ 300 → i + d = 300 → ∃ t, Ev (fun k => mooringlaw03_light.l0 k a b l x (i : Int)) t := by
  induction d with
  | zero =>
    intro i x hi hd
    obtain ⟨t, ht⟩ := light_stop a b x
    refine ⟨t, Ev.step (f := fun _ => some t) (fun k => ?_) (Ev.now _)⟩
    simp only [mooringlaw03_light.l0]
    rw [if_neg (show ¬ (i : Int) < 300 by omega)]
    rw [ht, ite_self]
  | succ d ih =>
    intro i x hi hd
    by_cases h : (i : Int) < (l.length : Int)
    · obtain ⟨t, ht⟩ := ih (i + 1) (wrap64 (x + ((rd_L1 l (i : Int)).length : Int))) (by omega) (by omega)
      refine ⟨t, Ev.step (f := fun k => mooringlaw03_light.l0 k a b l (wrap64 (x + ((rd_L1 l (i : Int)).length : Int))) ((i + 1 : Nat) : Int)) (fun k => ?_) ht⟩
      simp only [mooringlaw03_light.l0]
      rw [if_pos h, if_pos (by omega), if_pos (by omega), w64 ((i : Int) + 1) (by omega) (by omega)]
      rfl
    · obtain ⟨t, ht⟩ := light_stop a b x
      refine ⟨t, Ev.step (f := fun _ => some t) (fun k => ?_) (Ev.now _)⟩
      simp only [mooringlaw03_light.l0]
      rw [if_neg h, ht]
theorem evLight03 (a b : Int) (l : List (List Int)) : ∃ t, Ev (fun k => mooringlaw03_light.f k a b l) t := by
  unfold mooringlaw03_light.f
  exact light_l0 a b l 300 0 0 (by omega) (by omega)
end Go.Proofs.Ytbogmlckbkogiaa.Red
namespace Go.Proofs.Ytbogmlckbkogiaa.Red
open Go.RowKit Go.Proofs.YtbogmlckbkogiaaW.PrintWords Go.Proofs.Ytbogmlckbkogiaa.Leaf Go.Proofs.Ytbogmlckbkogiaa.Gf Go.Proofs.Ytbogmlckbkogiaa.H Go.Proofs.Ytbogmlckbkogiaa.Mx Go.Proofs.Ytbogmlckbkogiaa.P
set_option linter.unusedVariables false
set_option linter.unusedSimpArgs false
theorem row_selM (A : Mat) (H : List Bool) (i : Nat) (hi : i < (selN H H.length).length) : row (selM A H) i = row A ((selN H H.length).getD i 0) := by
  unfold selM
  show ((selN H H.length).map _).getD i [] = _
  rw [List.getD_eq_getElem?_getD, List.getElem?_map, List.getD_eq_getElem?_getD, List.getElem?_eq_getElem hi]
  rfl
theorem row_take3 (A : Mat) (k i : Nat) (hi : i < k) : row (A.take k) i = row A i := by
  unfold row
  rw [List.getD_eq_getElem?_getD, List.getElem?_take_of_lt hi, List.getD_eq_getElem?_getD]
theorem getD_take (l : List Nat) (k i : Nat) (hi : i < k) : (l.take k).getD i 0 = l.getD i 0 := by
  rw [List.getD_eq_getElem?_getD, List.getElem?_take_of_lt hi, List.getD_eq_getElem?_getD]
/-- A product's row is told by the left matrix' row. -/
theorem row_mulM_eq {A A' C : Mat} {n n' m p : Nat} (hA : Reg A n m) (hA' : Reg A' n' m) (hC : Reg C m p) (hm : 0 < m) {i i' : Nat} (hi : i < n) (hi' : i' < n') (h : row A i = row A' i') : row (mulM A C) i = row (mulM A' C) i' := by
  refine ext0 (by rw [(mulM_reg hA hC hm).2 i hi, (mulM_reg hA' hC hm).2 i' hi']) fun j hj => ?_
  rw [(mulM_reg hA hC hm).2 i hi] at hj
  have h1 := el_mulM hA hC hm hi hj
  have h2 := el_mulM hA' hC hm hi' hj
  unfold el at h1 h2
  rw [h1, h2]
  unfold mm
  simp only [h]
/-- Of a codeword: it itself. -/
theorem decM_code {k m p : Nat} (hk : 1 ≤ k) (h : k + m ≤ 255) {H : List Bool} (hH : H.length = k + m) (hn : k ≤ (selN H H.length).length) {A D : Mat} (hD : Reg D k p) (hA : ∀ i, i < k + m → H.getD i false = true → row A i = row (mulM (cauM k m) D) i) :
    decM k m A H = mulM (cauM k m) D := by
  obtain ⟨h1, hP, X, hX, hXr, e1, e2⟩ := pic_inverse hk h hH hn
  have hlt : ∀ i, i < (selN H H.length).length → (selN H H.length).getD i 0 < k + m ∧ H.getD ((selN H H.length).getD i 0) false = true := fun i hi => by
    have hm := getD_mem (l := selN H H.length) (i := i) hi
    refine ⟨?_, (List.mem_filter.1 hm).2⟩
    have := selN_lt hm
    omega
  have hT : (selM A H).take k = mulM (picM k m H) D := by
    have hC := mulM_reg (cauM_reg k m) hD hk
    have hr : ∀ i, i < k → row ((selM A H).take k) i = row (mulM (picM k m H) D) i := fun i hi => by
      have hl : ((selN H H.length).take k).length = k := by rw [List.length_take]; omega
      have e3 : row (picM k m H) i = row (cauM k m) ((selN H H.length).getD i 0) := by
        unfold picM
        rw [row_rowsM _ _ _ (by omega), getD_take _ _ _ hi]
      have hh := hlt i (by omega)
      rw [row_take3 _ _ _ hi, row_selM _ _ _ (by omega), hA _ hh.1 hh.2, row_mulM_eq hP (cauM_reg k m) hD hk hi hh.1 e3]
    have hR := mulM_reg hP hD hk
    refine mat_ext (n := k) (m := p) ⟨by rw [List.length_take, selM_length]; omega, fun i hi => by rw [hr i hi]; exact hR.2 i hi⟩ hR fun i j hi hj => ?_
    show at0 _ _ = at0 _ _
    rw [hr i hi]
  unfold decM
  rw [hX, unM_oM, hT, ← mulM_assoc hXr hP hD hk hk, e2, mulM_id hD hk]
end Go.Proofs.Ytbogmlckbkogiaa.Red
namespace Go.Proofs.Ytbogmlckbkogiaa.P
open Go.Proofs.Ytbogmlckbkogiaa.Leaf
open Go.RowKit Go.Proofs.YtbogmlckbkogiaaW.PrintWords Go.Proofs.YtbogmlckbkogiaaW.PrintLast Go.Proofs.YtbogmlckbkogiaaW.PrintMore
attribute [local go_sem] max2_int min2_int max_two min_two max_three min_three max_four min_four   -- for this text's walks alone
set_option linter.unusedVariables false
set_option linter.unusedSimpArgs false
def mooringref03_Check.j0 : Nat → Int → Int → List (List Int) → Bool → Option (Bool × Int)
  | 0, _, _, _, _ => none
  | k + 1, x0, x1, x2, x21 => if x21 = true then (some (false, 1)) else (if 0 ≤ x0 then (if x0 ≤ (x2.length : Int) then ((mooringref03_Encode.f k x0 x1 (x2.take (x0 : Int).toNat)).bind fun bt107 => ((mooringref02_Same.f k bt107.1 x2).bind fun t111 => (some (t111, 0)))) else (none)) else (none))
def mooringref03_Check.f (k : Nat) (a0 : Int) (a1 : Int) (l2 : List (List Int)) : Option (Bool × Int) := (mooringref03_Code.f a0 a1).bind fun t101 => (if t101 = true then ((mooringref03_even.f k l2 (wrap64 (a0 + a1))).bind fun t102 => (mooringref03_Check.j0 k a0 a1 l2 (!t102))) else (mooringref03_Check.j0 k a0 a1 l2 true))
theorem mooringref03_Check.mono_l : ∀ k, (∀ y0 y1 y2 y3, LeO (mooringref03_Check.j0 k y0 y1 y2 y3) (mooringref03_Check.j0 (k + 1) y0 y1 y2 y3))
  | 0 => fun _ _ _ _ r h => by simp [mooringref03_Check.j0] at h
  | k + 1 => by
    have ih0 := mooringref03_Check.mono_l k
    · intro y0 y1 y2 y3
      unfold mooringref03_Check.j0
      repeat' first
      | (with_reducible exact ih0 _ _ _ _)
      | (with_reducible exact mooringref02_Same.mono _ _ _)
      | (with_reducible exact mooringref03_Encode.mono _ _ _ _)
      | (with_reducible exact mooringref03_even.mono _ _ _)
      | (with_reducible exact LeO.refl _)
      | (with_reducible exact LeO.none _)
      | (with_reducible refine LeO.ite ?_ ?_)
      | (with_reducible refine LeO.bind ?_ (fun _ => ?_))
      | exact ih0 _ _ _ _
      | exact mooringref02_Same.mono _ _ _
      | exact mooringref03_Encode.mono _ _ _ _
      | exact mooringref03_even.mono _ _ _
      | exact LeO.none _
      | refine LeO.ite ?_ ?_
      | refine LeO.bind ?_ (fun _ => ?_)
theorem mooringref03_Check.mono : ∀ a0 a1 a2 k, LeO (mooringref03_Check.f k a0 a1 a2) (mooringref03_Check.f (k + 1) a0 a1 a2) := by
  intro a0 a1 a2 k
  have ih0 := mooringref03_Check.mono_l k
  unfold mooringref03_Check.f
  repeat' first
      | (with_reducible exact ih0 _ _ _ _)
      | (with_reducible exact mooringref02_Same.mono _ _ _)
      | (with_reducible exact mooringref03_Encode.mono _ _ _ _)
      | (with_reducible exact mooringref03_even.mono _ _ _)
      | (with_reducible exact LeO.refl _)
      | (with_reducible exact LeO.none _)
      | (with_reducible refine LeO.ite ?_ ?_)
      | (with_reducible refine LeO.bind ?_ (fun _ => ?_))
      | exact ih0 _ _ _ _
      | exact mooringref02_Same.mono _ _ _
      | exact mooringref03_Encode.mono _ _ _ _
      | exact mooringref03_even.mono _ _ _
      | exact LeO.none _
      | refine LeO.ite ?_ ?_
      | refine LeO.bind ?_ (fun _ => ?_)
end Go.Proofs.Ytbogmlckbkogiaa.P
namespace Go.Proofs.Ytbogmlckbkogiaa.P
open Go.Proofs.Ytbogmlckbkogiaa.Leaf
open Go.RowKit Go.Proofs.YtbogmlckbkogiaaW.PrintWords Go.Proofs.YtbogmlckbkogiaaW.PrintLast Go.Proofs.YtbogmlckbkogiaaW.PrintMore
attribute [local go_sem] max2_int min2_int max_two min_two max_three min_three max_four min_four   -- for this text's walks alone
set_option linter.unusedVariables false
set_option linter.unusedSimpArgs false
def code_Check.j0 : Nat → Int → Int → List (List Int) → Bool → Option (Bool × Int)
  | 0, _, _, _, _ => none
  | k + 1, x0, x1, x2, x27 => if x27 = true then (some (false, 1)) else (if 0 ≤ x0 then (if x0 ≤ (x2.length : Int) then ((code_Encode.f k x0 x1 (x2.take (x0 : Int).toNat)).bind fun bt110 => ((code_same.f bt110.1 x2).bind fun t114 => (some (t114, 0)))) else (none)) else (none))
def code_Check.f (k : Nat) (a0 : Int) (a1 : Int) (l2 : List (List Int)) : Option (Bool × Int) := (matrix_Cauchy.f k a0 a1).bind fun bt101 => (if bt101.2 = 0 then ((code_even.f l2 (wrap64 (a0 + a1))).bind fun t105 => (code_Check.j0 k a0 a1 l2 (!t105))) else (code_Check.j0 k a0 a1 l2 true))
theorem code_Check.mono_l : ∀ k, (∀ y0 y1 y2 y3, LeO (code_Check.j0 k y0 y1 y2 y3) (code_Check.j0 (k + 1) y0 y1 y2 y3))
  | 0 => fun _ _ _ _ r h => by simp [code_Check.j0] at h
  | k + 1 => by
    have ih0 := code_Check.mono_l k
    · intro y0 y1 y2 y3
      unfold code_Check.j0
      repeat' first
      | (with_reducible exact ih0 _ _ _ _)
      | (with_reducible exact code_Encode.mono _ _ _ _)
      | (with_reducible exact matrix_Cauchy.mono _ _ _)
      | (with_reducible exact LeO.refl _)
      | (with_reducible exact LeO.none _)
      | (with_reducible refine LeO.ite ?_ ?_)
      | (with_reducible refine LeO.bind ?_ (fun _ => ?_))
      | exact ih0 _ _ _ _
      | exact code_Encode.mono _ _ _ _
      | exact matrix_Cauchy.mono _ _ _
      | exact LeO.none _
      | refine LeO.ite ?_ ?_
      | refine LeO.bind ?_ (fun _ => ?_)
theorem code_Check.mono : ∀ a0 a1 a2 k, LeO (code_Check.f k a0 a1 a2) (code_Check.f (k + 1) a0 a1 a2) := by
  intro a0 a1 a2 k
  have ih0 := code_Check.mono_l k
  unfold code_Check.f
  repeat' first
      | (with_reducible exact ih0 _ _ _ _)
      | (with_reducible exact code_Encode.mono _ _ _ _)
      | (with_reducible exact matrix_Cauchy.mono _ _ _)
      | (with_reducible exact LeO.refl _)
      | (with_reducible exact LeO.none _)
      | (with_reducible refine LeO.ite ?_ ?_)
      | (with_reducible refine LeO.bind ?_ (fun _ => ?_))
      | exact ih0 _ _ _ _
      | exact code_Encode.mono _ _ _ _
      | exact matrix_Cauchy.mono _ _ _
      | exact LeO.none _
      | refine LeO.ite ?_ ?_
      | refine LeO.bind ?_ (fun _ => ?_)
end Go.Proofs.Ytbogmlckbkogiaa.P
namespace Go.Proofs.Ytbogmlckbkogiaa.P
open Go.Proofs.Ytbogmlckbkogiaa.Leaf
open Go.RowKit Go.Proofs.YtbogmlckbkogiaaW.PrintWords Go.Proofs.YtbogmlckbkogiaaW.PrintLast Go.Proofs.YtbogmlckbkogiaaW.PrintMore
attribute [local go_sem] max2_int min2_int max_two min_two max_three min_three max_four min_four   -- for this text's walks alone
set_option linter.unusedVariables false
set_option linter.unusedSimpArgs false
def mooringlaw03_CodeChecks.f (k : Nat) (a0 : Int) (a1 : Int) (l2 : List (List Int)) : Option (Bool) := (mooringlaw03_light.f k a0 a1 l2).bind fun t101 => (if t101 = true then ((code_Check.f k a0 a1 l2).bind fun bt102 => ((mooringref03_Check.f k a0 a1 l2).bind fun bt104 => (if (bt102.1 == bt104.1) = true then (if bt102.2 = bt104.2 then ((mooringlaw03_awake.f k).bind fun t106 => (some t106)) else (some false)) else (some false)))) else ((mooringlaw03_awake.f k).bind fun t107 => (some t107)))
theorem mooringlaw03_CodeChecks.mono : ∀ a0 a1 a2 k, LeO (mooringlaw03_CodeChecks.f k a0 a1 a2) (mooringlaw03_CodeChecks.f (k + 1) a0 a1 a2) := by
  intro a0 a1 a2 k
  unfold mooringlaw03_CodeChecks.f
  repeat' first
      | (with_reducible exact code_Check.mono _ _ _ _)
      | (with_reducible exact mooringlaw03_awake.mono _)
      | (with_reducible exact mooringlaw03_light.mono _ _ _ _)
      | (with_reducible exact mooringref03_Check.mono _ _ _ _)
      | (with_reducible exact LeO.refl _)
      | (with_reducible exact LeO.none _)
      | (with_reducible refine LeO.ite ?_ ?_)
      | (with_reducible refine LeO.bind ?_ (fun _ => ?_))
      | exact code_Check.mono _ _ _ _
      | exact mooringlaw03_awake.mono _
      | exact mooringlaw03_light.mono _ _ _ _
      | exact mooringref03_Check.mono _ _ _ _
      | exact LeO.none _
      | refine LeO.ite ?_ ?_
      | refine LeO.bind ?_ (fun _ => ?_)
end Go.Proofs.Ytbogmlckbkogiaa.P
namespace Go.Proofs.Ytbogmlckbkogiaa.P
open Go.Proofs.Ytbogmlckbkogiaa.H
open Go.Proofs.Ytbogmlckbkogiaa.Leaf
open Go.RowKit Go.Proofs.YtbogmlckbkogiaaW.PrintWords Go.Proofs.YtbogmlckbkogiaaW.PrintLast Go.Proofs.YtbogmlckbkogiaaW.PrintMore
attribute [local go_sem] max2_int min2_int max_two min_two max_three min_three max_four min_four   -- for this text's walks alone
set_option linter.unusedVariables false
set_option linter.unusedSimpArgs false
mutual
def mooringlaw03_CodeRefuses.j0 : Nat → Int → Int → List (List Int) → Int → Bool → Int → Int → List (List Int) → List Bool → Option (Bool)
  | 0, _, _, _, _, _, _, _, _, _ => none
  | k + 1, x0, x1, x7, x8, x9, x102000, x102001, x102002, x102003 => mooringlaw03_CodeRefuses.l0 k x0 x1 x7 x8 x9 (-1) 0 x102000 x102001 x102002 x102003
def mooringlaw03_CodeRefuses.l0 : Nat → Int → Int → List (List Int) → Int → Bool → Int → Int → Int → Int → List (List Int) → List Bool → Option (Bool)
  | 0, _, _, _, _, _, _, _, _, _, _, _ => none
  | k + 1, x0, x1, x7, x8, x9, x10, x11, x102000, x102001, x102002, x102003 => if x9 = true then (mooringlaw03_CodeRefuses.j2 k x0 x1 x7 x8 x9 x10 x11 (decide (x11 < (x102002.length : Int))) x102000 x102001 x102002 x102003) else (mooringlaw03_CodeRefuses.j2 k x0 x1 x7 x8 x9 x10 x11 false x102000 x102001 x102002 x102003)
def mooringlaw03_CodeRefuses.j2 : Nat → Int → Int → List (List Int) → Int → Bool → Int → Int → Bool → Int → Int → List (List Int) → List Bool → Option (Bool)
  | 0, _, _, _, _, _, _, _, _, _, _, _, _ => none
  | k + 1, x0, x1, x7, x8, x9, x10, x11, x61, x102000, x102001, x102002, x102003 => if x61 = true then (if 0 ≤ x11 then (if x11 < (x102003.length : Int) then (if rdOf false x102003 x11 = true then (if x10 < 0 then (if x11 < (x102002.length : Int) then (mooringlaw03_CodeRefuses.l0 k x0 x1 x7 x8 true ((rd_L1 x102002 x11).length : Int) (wrap64 (x11 + 1)) x102000 x102001 x102002 x102003) else (none)) else (if x11 < (x102002.length : Int) then (mooringlaw03_CodeRefuses.l0 k x0 x1 x7 x8 (x10 == ((rd_L1 x102002 x11).length : Int)) ((rd_L1 x102002 x11).length : Int) (wrap64 (x11 + 1)) x102000 x102001 x102002 x102003) else (none))) else (mooringlaw03_CodeRefuses.l0 k x0 x1 x7 x8 x9 x10 (wrap64 (x11 + 1)) x102000 x102001 x102002 x102003)) else (none)) else (none)) else (if x9 = true then ((mooringlaw03_count.f k x102003).bind fun t114 => (if t114 < x0 then (if x8 = 4 then (if (x7.length : Int) = 0 then ((mooringlaw03_awake.f k).bind fun t115 => (some t115)) else (some false)) else (some false)) else ((mooringref03_Check.f k x0 x1 x7).bind fun bt116 => (if x8 = 0 then (if bt116.2 = 0 then (mooringlaw03_CodeRefuses.j3 k x0 x7 (!bt116.1) x102000 x102001 x102002 x102003) else (mooringlaw03_CodeRefuses.j3 k x0 x7 true x102000 x102001 x102002 x102003)) else (mooringlaw03_CodeRefuses.j3 k x0 x7 true x102000 x102001 x102002 x102003))))) else (if x8 = 1 then (if (x7.length : Int) = 0 then ((mooringlaw03_awake.f k).bind fun t113 => (some t113)) else (some false)) else (some false)))
def mooringlaw03_CodeRefuses.j3 : Nat → Int → List (List Int) → Bool → Int → Int → List (List Int) → List Bool → Option (Bool)
  | 0, _, _, _, _, _, _, _ => none
  | k + 1, x0, x7, x130, x102000, x102001, x102002, x102003 => if x130 = true then (some false) else (mooringlaw03_CodeRefuses.l1 k x0 x7 0 0 x102000 x102001 x102002 x102003)
def mooringlaw03_CodeRefuses.l1 : Nat → Int → List (List Int) → Int → Int → Int → Int → List (List Int) → List Bool → Option (Bool)
  | 0, _, _, _, _, _, _, _, _ => none
  | k + 1, x0, x7, x14, x15, x102000, x102001, x102002, x102003 => if x15 < (x7.length : Int) then (if 0 ≤ x15 then (if x15 < (x102003.length : Int) then (if rdOf false x102003 x15 = true then (mooringlaw03_CodeRefuses.j5 k x0 x7 x14 x15 (decide (x14 < x0)) x102000 x102001 x102002 x102003) else (mooringlaw03_CodeRefuses.j5 k x0 x7 x14 x15 false x102000 x102001 x102002 x102003)) else (none)) else (none)) else ((mooringlaw03_awake.f k).bind fun t118 => (some t118))
def mooringlaw03_CodeRefuses.j5 : Nat → Int → List (List Int) → Int → Int → Bool → Int → Int → List (List Int) → List Bool → Option (Bool)
  | 0, _, _, _, _, _, _, _, _, _ => none
  | k + 1, x0, x7, x14, x15, x146, x102000, x102001, x102002, x102003 => if x146 = true then (if 0 ≤ x15 then (if x15 < (x7.length : Int) then (if x15 < (x102002.length : Int) then (if (strOfNums (rd_L1 x7 x15)).toList = (strOfNums (rd_L1 x102002 x15)).toList then (mooringlaw03_CodeRefuses.l1 k x0 x7 (wrap64 (x14 + 1)) (wrap64 (x15 + 1)) x102000 x102001 x102002 x102003) else (some false)) else (none)) else (none)) else (none)) else (mooringlaw03_CodeRefuses.l1 k x0 x7 x14 (wrap64 (x15 + 1)) x102000 x102001 x102002 x102003)
end
def mooringlaw03_CodeRefuses.f (k : Nat) (a0 : Int) (a1 : Int) (a2_0 : Int) (a2_1 : Int) (l2_2 : List (List Int)) (l2_3 : List Bool) : Option (Bool) := (mooringlaw03_light.f k a0 a1 l2_2).bind fun t102 => (if t102 = true then ((code_Decode.f a0 a1 l2_2 l2_3).bind fun bt104 => ((mooringref03_Code.f a0 a1).bind fun t108 => (if t108 = true then (if (l2_2.length : Int) = (l2_3.length : Int) then (mooringlaw03_CodeRefuses.j0 k a0 a1 bt104.1 bt104.2 ((l2_2.length : Int) == (wrap64 (a0 + a1))) a2_0 a2_1 l2_2 l2_3) else (mooringlaw03_CodeRefuses.j0 k a0 a1 bt104.1 bt104.2 false a2_0 a2_1 l2_2 l2_3)) else (mooringlaw03_CodeRefuses.j0 k a0 a1 bt104.1 bt104.2 false a2_0 a2_1 l2_2 l2_3)))) else ((mooringlaw03_awake.f k).bind fun t103 => (some t103)))
theorem mooringlaw03_CodeRefuses.mono_l : ∀ k, (∀ y0 y1 y2 y3 y4 y5 y6 y7 y8, LeO (mooringlaw03_CodeRefuses.j0 k y0 y1 y2 y3 y4 y5 y6 y7 y8) (mooringlaw03_CodeRefuses.j0 (k + 1) y0 y1 y2 y3 y4 y5 y6 y7 y8)) ∧ (∀ y0 y1 y2 y3 y4 y5 y6 y7 y8 y9 y10, LeO (mooringlaw03_CodeRefuses.l0 k y0 y1 y2 y3 y4 y5 y6 y7 y8 y9 y10) (mooringlaw03_CodeRefuses.l0 (k + 1) y0 y1 y2 y3 y4 y5 y6 y7 y8 y9 y10)) ∧ (∀ y0 y1 y2 y3 y4 y5 y6 y7 y8 y9 y10 y11, LeO (mooringlaw03_CodeRefuses.j2 k y0 y1 y2 y3 y4 y5 y6 y7 y8 y9 y10 y11) (mooringlaw03_CodeRefuses.j2 (k + 1) y0 y1 y2 y3 y4 y5 y6 y7 y8 y9 y10 y11)) ∧ (∀ y0 y1 y2 y3 y4 y5 y6, LeO (mooringlaw03_CodeRefuses.j3 k y0 y1 y2 y3 y4 y5 y6) (mooringlaw03_CodeRefuses.j3 (k + 1) y0 y1 y2 y3 y4 y5 y6)) ∧ (∀ y0 y1 y2 y3 y4 y5 y6 y7, LeO (mooringlaw03_CodeRefuses.l1 k y0 y1 y2 y3 y4 y5 y6 y7) (mooringlaw03_CodeRefuses.l1 (k + 1) y0 y1 y2 y3 y4 y5 y6 y7)) ∧ (∀ y0 y1 y2 y3 y4 y5 y6 y7 y8, LeO (mooringlaw03_CodeRefuses.j5 k y0 y1 y2 y3 y4 y5 y6 y7 y8) (mooringlaw03_CodeRefuses.j5 (k + 1) y0 y1 y2 y3 y4 y5 y6 y7 y8))
  | 0 => ⟨fun _ _ _ _ _ _ _ _ _ r h => by simp [mooringlaw03_CodeRefuses.j0] at h, fun _ _ _ _ _ _ _ _ _ _ _ r h => by simp [mooringlaw03_CodeRefuses.l0] at h, fun _ _ _ _ _ _ _ _ _ _ _ _ r h => by simp [mooringlaw03_CodeRefuses.j2] at h, fun _ _ _ _ _ _ _ r h => by simp [mooringlaw03_CodeRefuses.j3] at h, fun _ _ _ _ _ _ _ _ r h => by simp [mooringlaw03_CodeRefuses.l1] at h, fun _ _ _ _ _ _ _ _ _ r h => by simp [mooringlaw03_CodeRefuses.j5] at h⟩
  | k + 1 => by
    obtain ⟨ih0, ih1, ih2, ih3, ih4, ih5⟩ := mooringlaw03_CodeRefuses.mono_l k
    refine ⟨?_, ?_, ?_, ?_, ?_, ?_⟩
    · intro y0 y1 y2 y3 y4 y5 y6 y7 y8
      unfold mooringlaw03_CodeRefuses.j0
      repeat' first
      | (with_reducible exact ih0 _ _ _ _ _ _ _ _ _)
      | (with_reducible exact ih1 _ _ _ _ _ _ _ _ _ _ _)
      | (with_reducible exact ih2 _ _ _ _ _ _ _ _ _ _ _ _)
      | (with_reducible exact ih3 _ _ _ _ _ _ _)
      | (with_reducible exact ih4 _ _ _ _ _ _ _ _)
      | (with_reducible exact ih5 _ _ _ _ _ _ _ _ _)
      | (with_reducible exact mooringlaw03_awake.mono _)
      | (with_reducible exact mooringlaw03_count.mono _ _)
      | (with_reducible exact mooringlaw03_light.mono _ _ _ _)
      | (with_reducible exact mooringref03_Check.mono _ _ _ _)
      | (with_reducible exact LeO.refl _)
      | (with_reducible exact LeO.none _)
      | (with_reducible refine LeO.ite ?_ ?_)
      | (with_reducible refine LeO.bind ?_ (fun _ => ?_))
      | exact ih0 _ _ _ _ _ _ _ _ _
      | exact ih1 _ _ _ _ _ _ _ _ _ _ _
      | exact ih2 _ _ _ _ _ _ _ _ _ _ _ _
      | exact ih3 _ _ _ _ _ _ _
      | exact ih4 _ _ _ _ _ _ _ _
      | exact ih5 _ _ _ _ _ _ _ _ _
      | exact mooringlaw03_awake.mono _
      | exact mooringlaw03_count.mono _ _
      | exact mooringlaw03_light.mono _ _ _ _
      | exact mooringref03_Check.mono _ _ _ _
      | exact LeO.none _
      | refine LeO.ite ?_ ?_
      | refine LeO.bind ?_ (fun _ => ?_)
    · intro y0 y1 y2 y3 y4 y5 y6 y7 y8 y9 y10
      unfold mooringlaw03_CodeRefuses.l0
      repeat' first
      | (with_reducible exact ih0 _ _ _ _ _ _ _ _ _)
      | (with_reducible exact ih1 _ _ _ _ _ _ _ _ _ _ _)
      | (with_reducible exact ih2 _ _ _ _ _ _ _ _ _ _ _ _)
      | (with_reducible exact ih3 _ _ _ _ _ _ _)
      | (with_reducible exact ih4 _ _ _ _ _ _ _ _)
      | (with_reducible exact ih5 _ _ _ _ _ _ _ _ _)
      | (with_reducible exact mooringlaw03_awake.mono _)
      | (with_reducible exact mooringlaw03_count.mono _ _)
      | (with_reducible exact mooringlaw03_light.mono _ _ _ _)
      | (with_reducible exact mooringref03_Check.mono _ _ _ _)
      | (with_reducible exact LeO.refl _)
      | (with_reducible exact LeO.none _)
      | (with_reducible refine LeO.ite ?_ ?_)
      | (with_reducible refine LeO.bind ?_ (fun _ => ?_))
      | exact ih0 _ _ _ _ _ _ _ _ _
      | exact ih1 _ _ _ _ _ _ _ _ _ _ _
      | exact ih2 _ _ _ _ _ _ _ _ _ _ _ _
      | exact ih3 _ _ _ _ _ _ _
      | exact ih4 _ _ _ _ _ _ _ _
      | exact ih5 _ _ _ _ _ _ _ _ _
      | exact mooringlaw03_awake.mono _
      | exact mooringlaw03_count.mono _ _
      | exact mooringlaw03_light.mono _ _ _ _
      | exact mooringref03_Check.mono _ _ _ _
      | exact LeO.none _
      | refine LeO.ite ?_ ?_
      | refine LeO.bind ?_ (fun _ => ?_)
    · intro y0 y1 y2 y3 y4 y5 y6 y7 y8 y9 y10 y11
      unfold mooringlaw03_CodeRefuses.j2
      repeat' first
      | (with_reducible exact ih0 _ _ _ _ _ _ _ _ _)
      | (with_reducible exact ih1 _ _ _ _ _ _ _ _ _ _ _)
      | (with_reducible exact ih2 _ _ _ _ _ _ _ _ _ _ _ _)
      | (with_reducible exact ih3 _ _ _ _ _ _ _)
      | (with_reducible exact ih4 _ _ _ _ _ _ _ _)
      | (with_reducible exact ih5 _ _ _ _ _ _ _ _ _)
      | (with_reducible exact mooringlaw03_awake.mono _)
      | (with_reducible exact mooringlaw03_count.mono _ _)
      | (with_reducible exact mooringlaw03_light.mono _ _ _ _)
      | (with_reducible exact mooringref03_Check.mono _ _ _ _)
      | (with_reducible exact LeO.refl _)
      | (with_reducible exact LeO.none _)
      | (with_reducible refine LeO.ite ?_ ?_)
      | (with_reducible refine LeO.bind ?_ (fun _ => ?_))
      | exact ih0 _ _ _ _ _ _ _ _ _
      | exact ih1 _ _ _ _ _ _ _ _ _ _ _
      | exact ih2 _ _ _ _ _ _ _ _ _ _ _ _
      | exact ih3 _ _ _ _ _ _ _
      | exact ih4 _ _ _ _ _ _ _ _
      | exact ih5 _ _ _ _ _ _ _ _ _
      | exact mooringlaw03_awake.mono _
      | exact mooringlaw03_count.mono _ _
      | exact mooringlaw03_light.mono _ _ _ _
      | exact mooringref03_Check.mono _ _ _ _
      | exact LeO.none _
      | refine LeO.ite ?_ ?_
      | refine LeO.bind ?_ (fun _ => ?_)
    · intro y0 y1 y2 y3 y4 y5 y6
      unfold mooringlaw03_CodeRefuses.j3
      repeat' first
      | (with_reducible exact ih0 _ _ _ _ _ _ _ _ _)
      | (with_reducible exact ih1 _ _ _ _ _ _ _ _ _ _ _)
      | (with_reducible exact ih2 _ _ _ _ _ _ _ _ _ _ _ _)
      | (with_reducible exact ih3 _ _ _ _ _ _ _)
      | (with_reducible exact ih4 _ _ _ _ _ _ _ _)
      | (with_reducible exact ih5 _ _ _ _ _ _ _ _ _)
      | (with_reducible exact mooringlaw03_awake.mono _)
      | (with_reducible exact mooringlaw03_count.mono _ _)
      | (with_reducible exact mooringlaw03_light.mono _ _ _ _)
      | (with_reducible exact mooringref03_Check.mono _ _ _ _)
      | (with_reducible exact LeO.refl _)
      | (with_reducible exact LeO.none _)
      | (with_reducible refine LeO.ite ?_ ?_)
      | (with_reducible refine LeO.bind ?_ (fun _ => ?_))
      | exact ih0 _ _ _ _ _ _ _ _ _
      | exact ih1 _ _ _ _ _ _ _ _ _ _ _
      | exact ih2 _ _ _ _ _ _ _ _ _ _ _ _
      | exact ih3 _ _ _ _ _ _ _
      | exact ih4 _ _ _ _ _ _ _ _
      | exact ih5 _ _ _ _ _ _ _ _ _
      | exact mooringlaw03_awake.mono _
      | exact mooringlaw03_count.mono _ _
      | exact mooringlaw03_light.mono _ _ _ _
      | exact mooringref03_Check.mono _ _ _ _
      | exact LeO.none _
      | refine LeO.ite ?_ ?_
      | refine LeO.bind ?_ (fun _ => ?_)
    · intro y0 y1 y2 y3 y4 y5 y6 y7
      unfold mooringlaw03_CodeRefuses.l1
      repeat' first
      | (with_reducible exact ih0 _ _ _ _ _ _ _ _ _)
      | (with_reducible exact ih1 _ _ _ _ _ _ _ _ _ _ _)
      | (with_reducible exact ih2 _ _ _ _ _ _ _ _ _ _ _ _)
      | (with_reducible exact ih3 _ _ _ _ _ _ _)
      | (with_reducible exact ih4 _ _ _ _ _ _ _ _)
      | (with_reducible exact ih5 _ _ _ _ _ _ _ _ _)
      | (with_reducible exact mooringlaw03_awake.mono _)
      | (with_reducible exact mooringlaw03_count.mono _ _)
      | (with_reducible exact mooringlaw03_light.mono _ _ _ _)
      | (with_reducible exact mooringref03_Check.mono _ _ _ _)
      | (with_reducible exact LeO.refl _)
      | (with_reducible exact LeO.none _)
      | (with_reducible refine LeO.ite ?_ ?_)
      | (with_reducible refine LeO.bind ?_ (fun _ => ?_))
      | exact ih0 _ _ _ _ _ _ _ _ _
      | exact ih1 _ _ _ _ _ _ _ _ _ _ _
      | exact ih2 _ _ _ _ _ _ _ _ _ _ _ _
      | exact ih3 _ _ _ _ _ _ _
      | exact ih4 _ _ _ _ _ _ _ _
      | exact ih5 _ _ _ _ _ _ _ _ _
      | exact mooringlaw03_awake.mono _
      | exact mooringlaw03_count.mono _ _
      | exact mooringlaw03_light.mono _ _ _ _
      | exact mooringref03_Check.mono _ _ _ _
      | exact LeO.none _
      | refine LeO.ite ?_ ?_
      | refine LeO.bind ?_ (fun _ => ?_)
    · intro y0 y1 y2 y3 y4 y5 y6 y7 y8
      unfold mooringlaw03_CodeRefuses.j5
      repeat' first
      | (with_reducible exact ih0 _ _ _ _ _ _ _ _ _)
      | (with_reducible exact ih1 _ _ _ _ _ _ _ _ _ _ _)
      | (with_reducible exact ih2 _ _ _ _ _ _ _ _ _ _ _ _)
      | (with_reducible exact ih3 _ _ _ _ _ _ _)
      | (with_reducible exact ih4 _ _ _ _ _ _ _ _)
      | (with_reducible exact ih5 _ _ _ _ _ _ _ _ _)
      | (with_reducible exact mooringlaw03_awake.mono _)
      | (with_reducible exact mooringlaw03_count.mono _ _)
      | (with_reducible exact mooringlaw03_light.mono _ _ _ _)
      | (with_reducible exact mooringref03_Check.mono _ _ _ _)
      | (with_reducible exact LeO.refl _)
      | (with_reducible exact LeO.none _)
      | (with_reducible refine LeO.ite ?_ ?_)
      | (with_reducible refine LeO.bind ?_ (fun _ => ?_))
      | exact ih0 _ _ _ _ _ _ _ _ _
      | exact ih1 _ _ _ _ _ _ _ _ _ _ _
      | exact ih2 _ _ _ _ _ _ _ _ _ _ _ _
      | exact ih3 _ _ _ _ _ _ _
      | exact ih4 _ _ _ _ _ _ _ _
      | exact ih5 _ _ _ _ _ _ _ _ _
      | exact mooringlaw03_awake.mono _
      | exact mooringlaw03_count.mono _ _
      | exact mooringlaw03_light.mono _ _ _ _
      | exact mooringref03_Check.mono _ _ _ _
      | exact LeO.none _
      | refine LeO.ite ?_ ?_
      | refine LeO.bind ?_ (fun _ => ?_)
theorem mooringlaw03_CodeRefuses.mono : ∀ a0 a1 a2 a3 a4 a5 k, LeO (mooringlaw03_CodeRefuses.f k a0 a1 a2 a3 a4 a5) (mooringlaw03_CodeRefuses.f (k + 1) a0 a1 a2 a3 a4 a5) := by
  intro a0 a1 a2 a3 a4 a5 k
  obtain ⟨ih0, ih1, ih2, ih3, ih4, ih5⟩ := mooringlaw03_CodeRefuses.mono_l k
  unfold mooringlaw03_CodeRefuses.f
  repeat' first
      | (with_reducible exact ih0 _ _ _ _ _ _ _ _ _)
      | (with_reducible exact ih1 _ _ _ _ _ _ _ _ _ _ _)
      | (with_reducible exact ih2 _ _ _ _ _ _ _ _ _ _ _ _)
      | (with_reducible exact ih3 _ _ _ _ _ _ _)
      | (with_reducible exact ih4 _ _ _ _ _ _ _ _)
      | (with_reducible exact ih5 _ _ _ _ _ _ _ _ _)
      | (with_reducible exact mooringlaw03_awake.mono _)
      | (with_reducible exact mooringlaw03_count.mono _ _)
      | (with_reducible exact mooringlaw03_light.mono _ _ _ _)
      | (with_reducible exact mooringref03_Check.mono _ _ _ _)
      | (with_reducible exact LeO.refl _)
      | (with_reducible exact LeO.none _)
      | (with_reducible refine LeO.ite ?_ ?_)
      | (with_reducible refine LeO.bind ?_ (fun _ => ?_))
      | exact ih0 _ _ _ _ _ _ _ _ _
      | exact ih1 _ _ _ _ _ _ _ _ _ _ _
      | exact ih2 _ _ _ _ _ _ _ _ _ _ _ _
      | exact ih3 _ _ _ _ _ _ _
      | exact ih4 _ _ _ _ _ _ _ _
      | exact ih5 _ _ _ _ _ _ _ _ _
      | exact mooringlaw03_awake.mono _
      | exact mooringlaw03_count.mono _ _
      | exact mooringlaw03_light.mono _ _ _ _
      | exact mooringref03_Check.mono _ _ _ _
      | exact LeO.none _
      | refine LeO.ite ?_ ?_
      | refine LeO.bind ?_ (fun _ => ?_)
end Go.Proofs.Ytbogmlckbkogiaa.P
namespace Go.Proofs.Ytbogmlckbkogiaa.Pure
open Go.RowKit Go.Proofs.YtbogmlckbkogiaaW.PrintWords Go.Proofs.Ytbogmlckbkogiaa.Leaf Go.Proofs.Ytbogmlckbkogiaa.P Go.Proofs.Ytbogmlckbkogiaa.Gf Go.Proofs.Ytbogmlckbkogiaa.Red Go.Proofs.Ytbogmlckbkogiaa.H Go.Proofs.Ytbogmlckbkogiaa.Mx
set_option linter.unusedSimpArgs false
set_option linter.unusedVariables false
theorem rdB (H : List Bool) (i : Nat) : rdOf false H (i : Int) = H.getD i false := rfl
theorem selN_length_le (H : List Bool) (i : Nat) : (selN H i).length ≤ i := selN_le H i
theorem count_l0 (H : List Bool) (hl : H.length ≤ 140737488351232) (d : Nat) : ∀ i : Nat, i + d = H.length → Ev (fun k => mooringlaw03_count.l0 k H ((selN H i).length : Int) (i : Int)) ((selN H H.length).length : Int) := by
  induction d with
  | zero =>
    intro i hi
    obtain rfl : i = H.length := by omega
    refine Ev.step (f := fun _ => some ((selN H H.length).length : Int)) (fun k => ?_) (Ev.now _)
    simp only [mooringlaw03_count.l0]
    rw [if_neg (by omega)]
  | succ d ih =>
    intro i hi
    have h1 := selN_length_le H i
    have hn := ih (i + 1) (by omega)
    refine Ev.step (f := fun k => mooringlaw03_count.l0 k H ((selN H (i + 1)).length : Int) ((i + 1 : Nat) : Int)) (fun k => ?_) hn
    simp only [mooringlaw03_count.l0]
    rw [if_pos (by omega), if_pos (by omega), rdB, w64 ((i : Int) + 1) (by omega) (by omega)]
    by_cases h : H.getD i false = true
    · rw [if_pos h, selN_yes h, w64 (((selN H i).length : Int) + 1) (by omega) (by omega), List.length_append]
      rfl
    · rw [if_neg h, selN_no (by simpa using h)]
      rfl
theorem evCount3 (H : List Bool) (hl : H.length ≤ 140737488351232) : Ev (fun k => mooringlaw03_count.f k H) ((selN H H.length).length : Int) := by
  unfold mooringlaw03_count.f
  exact count_l0 H hl H.length 0 (by omega)
/-- The shards that one has are of one length. -/
def EvA (A : Mat) (H : List Bool) : Prop := ∀ u v, u ∈ selN H H.length → v ∈ selN H H.length → (row A u).length = (row A v).length
theorem evD_iff {A : Mat} {H : List Bool} (h0 : 0 < (selM A H).length) : evD A H = true ↔ EvA A H := by
  have hl := selM_length A H
  have e : evD A H = evenB (selM A H) ((selM A H).length : Int) := by
    unfold evD
    rw [code_even_eq _ _ (by omega)]
    rfl
  rw [e, evenB_iff]
  constructor
  · intro h u v hu hv
    obtain ⟨i, hi, rfl⟩ := List.mem_iff_getElem.1 hu
    obtain ⟨j, hj, rfl⟩ := List.mem_iff_getElem.1 hv
    have h1 := h.2 i (by omega)
    have h2 := h.2 j (by omega)
    rw [row_selM _ _ _ hi, List.getD_eq_getElem?_getD, List.getElem?_eq_getElem hi] at h1
    rw [row_selM _ _ _ hj, List.getD_eq_getElem?_getD, List.getElem?_eq_getElem hj] at h2
    exact h1.trans h2.symm
  · intro h
    refine ⟨rfl, fun i hi => ?_⟩
    rw [row_selM _ _ _ (by omega), row_selM _ _ _ (by omega)]
    exact h _ _ (getD_mem (by omega)) (getD_mem (by omega))
end Go.Proofs.Ytbogmlckbkogiaa.Pure
namespace Go.Proofs.Ytbogmlckbkogiaa.Pure
open Go.RowKit Go.Proofs.YtbogmlckbkogiaaW.PrintWords Go.Proofs.Ytbogmlckbkogiaa.Leaf Go.Proofs.Ytbogmlckbkogiaa.P Go.Proofs.Ytbogmlckbkogiaa.Gf Go.Proofs.Ytbogmlckbkogiaa.Red Go.Proofs.Ytbogmlckbkogiaa.H Go.Proofs.Ytbogmlckbkogiaa.Mx
set_option linter.unusedSimpArgs false
set_option linter.unusedVariables false
def badR : List B := [1#8, 2#8, 3#8]
theorem bad_ofL : ([1, 2, 3] : List Int) = ofL badR := by decide
/-- Which one has: what was told, and all behind it. -/
def haveL (H : List Bool) (n : Nat) : List Bool := (H ++ List.replicate (n - H.length) true).take n
theorem haveL_length (H : List Bool) (n : Nat) : (haveL H n).length = n := by
  unfold haveL
  rw [List.length_take, List.length_append, List.length_replicate]
  omega
theorem row_set (S : Mat) (i j : Nat) (r : List B) (hi : i < S.length) : row (S.set i r) j = if j = i then r else row S j := by
  unfold row
  rw [List.getD_eq_getElem?_getD, List.getElem?_set]
  by_cases h : i = j
  · subst h
    rw [if_pos rfl, if_pos hi, if_pos rfl]
    rfl
  · rw [if_neg h, if_neg (fun e => h e.symm), List.getD_eq_getElem?_getD]
/-- Behind the shards that are spoiled. -/
structure Spoilt (L : Mat) (H : List Bool) (i : Nat) (S : Mat) : Prop where
  len : S.length = L.length
  old : ∀ j, j < i → H.getD j false = true → row S j = row L j
  bad : ∀ j, j < i → H.getD j false = false → row S j = badR
  new : ∀ j, i ≤ j → row S j = row L j
theorem dec_l1 (K M : Int) (c2 : List (List Int)) (c3 : List Bool) (L : Mat) (H : List Bool) (hH : H.length = L.length) (hl : L.length ≤ 255) (r : Bool)
    (hend : ∀ S, Spoilt L H L.length S → Ev (fun k => (code_Decode.f K M (oM S) H).bind fun bt131 => ((mooringlaw03_count.f k H).bind fun t135 => (if t135 < K then (if bt131.2 = 4 then (if (bt131.1.length : Int) = 0 then ((mooringlaw03_awake.f k).bind fun t136 => (some t136)) else (some false)) else (some false)) else (if bt131.2 = 0 then ((mooringref02_Same.f k bt131.1 (oM L)).bind fun t137 => (if t137 = true then ((mooringlaw03_awake.f k).bind fun t138 => (some t138)) else (some false))) else (some false))))) r) (d : Nat) :
    ∀ (i : Nat) (S : Mat), i + d = L.length → Spoilt L H i S → Ev (fun k => mooringlaw03_CodeDecodes.l1 k (oM L) H (oM S) (i : Int) K M c2 c3) r := by
  induction d with
  | zero =>
    intro i S hi hS
    obtain rfl : i = L.length := by omega
    have hlen := hS.len
    refine Ev.step (fun k => ?_) (hend S hS)
    simp only [mooringlaw03_CodeDecodes.l1]
    rw [if_neg (by rw [oM_length]; omega)]
  | succ d ih =>
    intro i S hi hS
    have hlen := hS.len
    by_cases h : H.getD i false = true
    · refine Ev.step (f := fun k => mooringlaw03_CodeDecodes.l1 k (oM L) H (oM S) ((i + 1 : Nat) : Int) K M c2 c3) (fun k => ?_) (ih (i + 1) S (by omega) ⟨hlen, fun j hj hb => ?_, fun j hj hb => ?_, fun j hj => hS.new j (by omega)⟩)
      · simp only [mooringlaw03_CodeDecodes.l1]
        rw [if_pos (by rw [oM_length]; omega), if_pos (by omega), if_pos (by omega), rdB, if_pos h, w64 ((i : Int) + 1) (by omega) (by omega)]
        rfl
      · by_cases e : j = i
        · subst e; exact hS.new j (Nat.le_refl _)
        · exact hS.old j (by omega) hb
      · by_cases e : j = i
        · subst e; rw [h] at hb; cases hb
        · exact hS.bad j (by omega) hb
    · refine Ev.step (f := fun k => mooringlaw03_CodeDecodes.l1 k (oM L) H (oM (S.set i badR)) ((i + 1 : Nat) : Int) K M c2 c3) (fun k => ?_) (ih (i + 1) (S.set i badR) (by omega) ⟨by rw [List.length_set]; exact hlen, fun j hj hb => ?_, fun j hj hb => ?_, fun j hj => ?_⟩)
      · simp only [mooringlaw03_CodeDecodes.l1]
        rw [if_pos (by rw [oM_length]; omega), if_pos (by omega), if_pos (by omega), rdB, if_neg h, w64 ((i : Int) + 1) (by omega) (by omega), bad_ofL, Int.toNat_natCast, oM_set]
        rfl
      · rw [row_set _ _ _ _ (by omega)]
        by_cases e : j = i
        · subst e; exact absurd hb h
        · rw [if_neg e]; exact hS.old j (by omega) hb
      · rw [row_set _ _ _ _ (by omega)]
        by_cases e : j = i
        · rw [if_pos e]
        · rw [if_neg e]; exact hS.bad j (by omega) hb
      · rw [row_set _ _ _ _ (by omega), if_neg (by omega)]
        exact hS.new j (by omega)
theorem dec_l0 (K M : Int) (c2 : List (List Int)) (c3 : List Bool) (L : Mat) (hl : L.length ≤ 255) (r : Bool) (d : Nat) : ∀ (x5 : List Bool), d = L.length - x5.length → x5.length ≤ 140737488351232 →
    Ev (fun k => mooringlaw03_CodeDecodes.l1 k (oM L) (haveL x5 L.length) (oM L) ((0 : Nat) : Int) K M c2 c3) r → Ev (fun k => mooringlaw03_CodeDecodes.l0 k (oM L) x5 K M c2 c3) r := by
  induction d with
  | zero =>
    intro x5 hd hx hend
    refine Ev.step (fun k => ?_) hend
    simp only [mooringlaw03_CodeDecodes.l0]
    rw [if_neg (by rw [oM_length]; omega), if_pos (by omega), if_pos (by rw [oM_length]; omega), Option.bind_some, if_pos (by rw [oM_length, List.length_nil]; omega), List.nil_append, oM_length, Int.toNat_natCast]
    unfold haveL
    rw [show L.length - x5.length = 0 by omega]
    simp only [List.replicate_zero, List.append_nil]
    rfl
  | succ d ih =>
    intro x5 hd hx hend
    refine Ev.step (f := fun k => mooringlaw03_CodeDecodes.l0 k (oM L) (x5 ++ [true]) K M c2 c3) (fun k => ?_) (ih (x5 ++ [true]) (by rw [List.length_append, List.length_singleton]; omega) (by rw [List.length_append, List.length_singleton]; omega) ?_)
    · simp only [mooringlaw03_CodeDecodes.l0]
      rw [if_pos (by rw [oM_length]; omega), if_pos (by omega)]
    · have e : haveL (x5 ++ [true]) L.length = haveL x5 L.length := by
        unfold haveL
        rw [List.length_append, List.length_singleton, List.append_assoc, show L.length - x5.length = (L.length - (x5.length + 1)) + 1 by omega, List.replicate_succ]
        rfl
      rw [e]
      exact hend
theorem CodeDecodes (K : Int) (wK : (Lit.int .i64 K).wf = true) (M : Int) (wM : (Lit.int .i64 M).wf = true) (X : Mat) (hs : X.length * 24 ≤ 140737488351232) (hr : ∀ i, i < X.length → (row X i).length ≤ 140737488351232) (H : List Bool) (hH : H.length ≤ 140737488351232) : Ev (fun k => mooringlaw03_CodeDecodes.f k K M (oM X) H) true := by
  have ha := bounds_i64 wK
  unfold mooringlaw03_CodeDecodes.f
  refine Ev.bind (evRefEncode K M ha.1 X (by omega) (fun i hi => by have := hr i hi; omega)) ?_
  have no : ∀ Z, Ev (fun k => mooringlaw03_CodeDecodes.j0 k Z true K M (oM X) H) true := fun Z =>
    Ev.step (f := fun k => (mooringlaw03_awake.f k).bind fun t107 => (some t107)) (fun k => by simp only [mooringlaw03_CodeDecodes.j0, if_true]) (Ev.bind evAwake03 (Ev.now _))
  unfold encR
  by_cases hc : codeB K M = true ∧ evenB X K = true
  · rw [if_pos hc]
    simp only [if_true]
    obtain ⟨t, ht⟩ := evLight03 K M (oM (mulM (cauM K.toNat M.toNat) X))
    refine Ev.bind ht ?_
    cases t with
    | false => exact no _
    | true =>
      rcases codeB_form K M with ⟨h1, k, m, rfl, rfl, hk, hm, h, e⟩ | ⟨h1, e⟩
      · simp only [Int.toNat_natCast, Bool.not_true]
        have hX := (evenB_iff X k).1 hc.2
        have hL := mulM_reg (cauM_reg k m) hX hk
        refine Ev.step (f := fun f => mooringlaw03_CodeDecodes.l0 f (oM (mulM (cauM k m) X)) H (k : Int) (m : Int) (oM X) H) (fun f => ?_) ?_
        · simp only [mooringlaw03_CodeDecodes.j0, Bool.false_eq_true, if_false, Option.bind_some]
          rw [if_pos (by rw [List.length_nil]; omega), List.nil_append]
        refine dec_l0 _ _ _ _ _ (by rw [hL.1]; omega) _ _ H rfl hH ?_
        have hHl := haveL_length H (mulM (cauM k m) X).length
        refine dec_l1 _ _ _ _ _ _ hHl (by rw [hL.1]; omega) _ (fun S hS => ?_) (mulM (cauM k m) X).length 0 _ (by omega) ⟨rfl, fun j hj => by omega, fun j hj => by omega, fun j _ => rfl⟩
        have hlen := hL.1
        generalize hGH : haveL H (mulM (cauM k m) X).length = G at *
        generalize hGL : mulM (cauM k m) X = L at *
        have hSr : ∀ i, i < S.length → (row S i).length ≤ 140737488355327 := fun i hi => by
          rw [hS.len] at hi
          cases hb : G.getD i false with
          | true =>
            rw [hS.old i hi hb, hL.2 i (by omega)]
            have := hr 0 (by have := hX.1; omega)
            omega
          | false =>
            rw [hS.bad i hi hb]
            decide
        simp only [code_Decode.f_oM (k : Int) (m : Int) ha.1 S hSr G, Option.bind_some]
        refine Ev.bind (evCount3 G (by omega)) ?_
        have hE : EvA S G := by
          intro u v hu hv
          have hu2 := selN_lt hu
          have hv2 := selN_lt hv
          rw [hS.old u (by omega) (List.mem_filter.1 hu).2, hS.old v (by omega) (List.mem_filter.1 hv).2, hL.2 u (by omega), hL.2 v (by omega)]
        have hdec : decR (k : Int) (m : Int) S G = if ((selN G G.length).length : Int) < (k : Int) then ([], 4) else (oM (decM k m S G), 0) := by
          unfold decR
          rw [if_pos ⟨h1, by have := hS.len; omega, by omega⟩, if_neg, Int.toNat_natCast, Int.toNat_natCast, selM_length]
          rintro ⟨h2, h3⟩
          rw [(evD_iff h2).2 hE] at h3
          cases h3
        by_cases hn : ((selN G G.length).length : Int) < (k : Int)
        · rw [if_pos hn] at hdec
          simp only [hdec, if_pos hn, if_true]
          exact Ev.bind evAwake03 (Ev.now _)
        · rw [if_neg hn] at hdec
          have hcode := decM_code (A := S) (H := G) hk h (by omega) (by omega) hX (fun i hi hb => by rw [hGL]; exact hS.old i (by omega) hb)
          rw [hcode, hGL] at hdec
          simp only [hdec, if_neg hn, if_true]
          refine Ev.bind (evSame L L (by omega)) ?_
          simp only [decide_true, if_true]
          exact Ev.bind evAwake03 (Ev.now _)
      · rw [h1] at hc
        cases hc.1
  · rw [if_neg hc]
    exact no _
end Go.Proofs.Ytbogmlckbkogiaa.Pure
namespace Go.Proofs.Ytbogmlckbkogiaa.H
open Go.RowKit Go.Proofs.YtbogmlckbkogiaaW.PrintWords Go.Proofs.YtbogmlckbkogiaaW.PrintLast Go.Proofs.Ytbogmlckbkogiaa.Leaf Go.Proofs.Ytbogmlckbkogiaa.Gf Go.Proofs.Ytbogmlckbkogiaa.Red Go.Proofs.Ytbogmlckbkogiaa.P
set_option linter.unusedVariables false
set_option linter.unusedSimpArgs false
theorem C_rows_of (w : World) (ad : Addr) (xs : List (List Int)) (As : Nat → Option Addr) (cs : Nat → Nat) (hl : xs.length ≤ 9223372036854775807)
    (h : ∀ j, j < xs.length → w.cell? (ad.add j) = some (.slice (As j) (xs.getD j []).length (cs j)) ∧ (xs.getD j []).length ≤ cs j ∧ Kd.C (Kd.int .u8) w (As j) (xs.getD j []).length (xs.getD j [])) : Kd.C KR w (some ad) xs.length xs := by
  refine ⟨rfl, hl, fun _ => ⟨ad, rfl, fun j p hj => ?_⟩⟩
  obtain ⟨hlt, hp⟩ := List.getElem?_eq_some_iff.1 hj
  have hd : xs.getD j [] = p := by rw [List.getD_eq_getElem?_getD, hj]; rfl
  obtain ⟨h1, h2, h3⟩ := h j hlt
  rw [hd] at h1 h2 h3
  refine ⟨[.slice (As j) p.length (cs j)], rfl, ⟨As j, cs j, rfl, h2, h3⟩, fun i u hu => ?_⟩
  cases i with
  | zero =>
    cases hu
    show w.cell? (ad.add (j * 1 + 0)) = _
    rw [Nat.mul_one, Nat.add_zero]
    exact h1
  | succ i => simp at hu
def mooringlaw02_awake.f : Option Bool := some true
end Go.Proofs.Ytbogmlckbkogiaa.H
namespace Go.Proofs.Ytbogmlckbkogiaa.H
open Go.RowKit Go.ChangeShapes Go.WideShapes Go.Deep Go.Proofs.YtbogmlckbkogiaaW.PrintWords Go.Proofs.Ytbogmlckbkogiaa.Leaf Go.Proofs.Ytbogmlckbkogiaa.Gf Go.Proofs.Ytbogmlckbkogiaa.Red
set_option linter.unusedVariables false
theorem rows_weights {H : Type} {P : Program} {e : TypeId} : ∀ {l : List (DataW H)} {d : DataW H}, d ∈ l → ∀ n ∈ d.weights P e, n ∈ DataW.weightsAll P e l
  | d0 :: l, d, hd, n, hn => by
    simp only [DataW.weightsAll, List.mem_append]
    rcases List.mem_cons.1 hd with rfl | hd
    · exact Or.inl hn
    · exact Or.inr (rows_weights hd n hn)
theorem u8_range {x : Int} (h : (Lit.int .u8 x).wf = true) : 0 ≤ x ∧ x < 256 := by
  have h1 : 0 ≤ x ∧ x ≤ 255 := by simpa [Lit.wf, IntKind.min, IntKind.max, IntKind.signed, IntKind.bits] using h
  omega
theorem rows_arg {H : Type} {enc : TypeId × Value → H} {W : World} {a : Option Addr} {len cap : Nat} {d : DataW H} {ps : List MemPlace} (h : DataW.Trod enc Try.prog W 0 (fun _ => true) true 51 (.slice a len cap) d ps) (hw : ∀ x ∈ d.weights Try.prog 51, x ≤ reachBytes) :
    ∃ M : Mat, len = M.length ∧ len ≤ cap ∧ Kd.C KR W a len (oM M) ∧ len * 24 ≤ 140737488351232 ∧ ∀ i, i < M.length → (row M i).length ≤ 140737488351232 := by
  obtain ⟨fuel, hf⟩ := h
  rcases open_int_rows Try.underlying51 Try.underlying22 Try.underlying5 (by kernel_rfl) (by kernel_rfl) hf with ⟨hcs, _⟩ | ⟨a', len', cap', A, L, C, Z, hcs, _, hl, hm, hx, hrow⟩
  · simp [Value.cells] at hcs
    obtain ⟨rfl, rfl, rfl⟩ := hcs
    exact ⟨[], rfl, Nat.le_refl _, Kd.C_nil _ _, by decide, fun i hi => absurd hi (Nat.not_lt_zero _)⟩
  · simp [Value.cells] at hcs
    obtain ⟨rfl, rfl, rfl⟩ := hcs
    obtain ⟨rfl, _⟩ := Prod.mk.inj hx
    have hlen : len ≤ 9223372036854775807 := by unfold maxLen at hm; omega
    let M : Mat := (List.range len).map fun r => ((Z r).take (L r)).map toB
    have hML : M.length = len := by simp [M]
    have hMr : ∀ r, r < len → row M r = ((Z r).take (L r)).map toB := fun r hr => row_map len (fun r => ((Z r).take (L r)).map toB) r hr
    have hlr : ∀ r, r < len → (row M r).length = L r := by
      intro r hr
      obtain ⟨_, h1, _, h2, _⟩ := hrow r (by omega)
      rw [hMr r hr, List.length_map, List.length_take, h2]
      omega
    have hof : ∀ r, r < len → ofL (row M r) = (Z r).take (L r) := by
      intro r hr
      obtain ⟨_, _, _, _, hz, _⟩ := hrow r (by omega)
      rw [hMr r hr]
      unfold ofL
      rw [List.map_map]
      refine (List.map_congr_left fun x hx => ?_).trans (List.map_id' _)
      have := u8_range (hz x (List.mem_of_mem_take hx))
      exact ofB_toB x this.1 this.2
    refine ⟨M, hML.symm, hl, ?_, ?_, fun r hr => ?_⟩
    · have hC := C_rows_of W a' (oM M) A C (by rw [oM_length, hML]; exact hlen) (fun r hr => by
        rw [oM_length, hML] at hr
        obtain ⟨hc, h1, h2, h3, h4, h5, h6⟩ := hrow r (by omega)
        have e : (oM M).getD r [] = ofL (row M r) := map_getD M r
        rw [e, ofL_length, hlr r hr]
        refine ⟨hc, h1, by rw [ofL_length, hlr r hr], by unfold maxLen at h2; omega, fun hp => ?_⟩
        cases hA : A r with
        | none => have := h5 hA; omega
        | some ad =>
          obtain ⟨_, h7⟩ := h6 ad hA
          refine ⟨ad, rfl, fun j p hj => ⟨[.int .u8 p], rfl, rfl, fun i u hu => ?_⟩⟩
          cases i with
          | zero =>
            cases hu
            show W.cell? (ad.add (j * 1 + 0)) = _
            rw [Nat.mul_one, Nat.add_zero]
            have hj' := (List.getElem?_eq_some_iff.1 hj).1
            rw [ofL_length, hlr r hr] at hj'
            rw [h7 j (by omega)]
            rw [hof r hr, List.getElem?_take, if_pos hj'] at hj
            rw [List.getD_eq_getElem?_getD, hj]
            rfl
          | succ i => simp at hu)
      rw [oM_length, hML] at hC
      exact hC
    · have h1 : ((len + (cap - len)) * 24) ∈ (DataW.slice ((List.range len).map fun r => intRow (H := H) .u8 (A r) (L r) (Z r)) ((List.range (cap - len)).map fun j => intRow .u8 (A (len + j)) (L (len + j)) (Z (len + j)))).weights Try.prog 51 := by
        simp only [DataW.weights, Try.underlying51, List.length_map, List.length_range]
        rw [show Try.prog.bytesOf 22 = 24 by kernel_rfl]
        exact List.mem_cons_self
      have h2 := hw _ h1
      have : reachBytes = 140737488351232 := by decide
      omega
    · rw [hML] at hr
      obtain ⟨hc, h1, h2, h3, h4, h5, h6⟩ := hrow r (by omega)
      rw [hlr r hr]
      cases hA : A r with
      | none => have := h5 hA; omega
      | some ad =>
        have hmem : intRow (H := H) .u8 (A r) (L r) (Z r) ∈ (List.range len).map fun r => intRow (H := H) .u8 (A r) (L r) (Z r) := List.mem_map.2 ⟨r, List.mem_range.2 hr, rfl⟩
        have hin := hw (((lits (H := H) .u8 ((Z r).take (L r))).length + (lits (H := H) .u8 ((Z r).drop (L r))).length) * 1) (by
          simp only [DataW.weights, Try.underlying51]
          refine List.mem_cons_of_mem _ (List.mem_append_left _ (rows_weights hmem _ ?_))
          rw [hA]
          simp only [intRow, DataW.weights, Try.underlying22]
          rw [show Try.prog.bytesOf 5 = 1 by kernel_rfl]
          exact List.mem_cons_self)
        have : reachBytes = 140737488351232 := by decide
        simp [lits] at hin
        omega
end Go.Proofs.Ytbogmlckbkogiaa.H
namespace Go.Proofs.Ytbogmlckbkogiaa.H
open Go.RowKit Go.ChangeShapes Go.WideShapes Go.Deep Go.Joins Go.Proofs.YtbogmlckbkogiaaW.PrintWords Go.Proofs.Ytbogmlckbkogiaa.Leaf Go.Proofs.Ytbogmlckbkogiaa.Gf Go.Proofs.Ytbogmlckbkogiaa.Red
set_option linter.unusedVariables false
theorem bools_arg {H : Type} {enc : TypeId × Value → H} {W : World} {a : Option Addr} {len cap : Nat} {d : DataW H} {ps : List MemPlace} (h : DataW.Trod enc Try.prog W 0 (fun _ => true) true 78 (.slice a len cap) d ps) (hw : ∀ x ∈ d.weights Try.prog 78, x ≤ reachBytes) :
    ∃ B : List Bool, len = B.length ∧ len ≤ cap ∧ Kd.C Kd.bool W a len B ∧ len ≤ 140737488351232 := by
  obtain ⟨fuel, hf⟩ := h
  rcases open_bools Try.underlying78 Try.underlying4 (by kernel_rfl) hf with ⟨hcs, _⟩ | ⟨a', len', cap', B, hcs, _, hl, hm, hx, hcell⟩
  · simp [Value.cells] at hcs
    obtain ⟨rfl, rfl, rfl⟩ := hcs
    exact ⟨[], rfl, Nat.le_refl _, Kd.C_nil _ _, by decide⟩
  · simp [Value.cells] at hcs
    obtain ⟨rfl, rfl, rfl⟩ := hcs
    obtain ⟨rfl, _⟩ := Prod.mk.inj hx
    refine ⟨(List.range len).map B, by simp, hl, ?_, ?_⟩
    · refine Kd.C_of_reads (d := false) ⟨by simp, by unfold maxLen at hm; omega, fun h0 => ⟨a', rfl, fun j hj => ?_⟩⟩
      rw [hcell j (by omega), List.getD_eq_getElem?_getD, List.getElem?_map, List.getElem?_range hj]
      rfl
    · have hx := hw ((len + (cap - len)) * Try.prog.bytesOf 4) (by simp [boolRow, DataW.weights, Try.underlying78])
      rw [show Try.prog.bytesOf 4 = 1 by kernel_rfl] at hx
      unfold reachBytes at hx
      omega
set_option maxRecDepth 100000 in
theorem lost_arg {H : Type} {enc : TypeId × Value → H} {W : World} {r : Reach} {b0 : Nat} {v : Value} {d : DataW H} {ps : List MemPlace} (hv : Value.okWide Try.prog W r b0 82 v) (h : DataW.Trod enc Try.prog W 0 (fun _ => true) true 82 v d ps) (hw : ∀ x ∈ d.weights Try.prog 82, x ≤ reachBytes) :
    ∃ (K M : Int) (A : Option Addr) (c : Nat) (X : Mat) (A' : Option Addr) (c' : Nat) (B : List Bool), v = .agg #[.int .i64 K, .int .i64 M, .slice A (oM X).length c, .slice A' B.length c'] ∧ (Lit.int .i64 K).wf = true ∧ (Lit.int .i64 M).wf = true ∧
      Kd.C KR W A (oM X).length (oM X) ∧ (oM X).length ≤ c ∧ X.length * 24 ≤ 140737488351232 ∧ (∀ i, i < X.length → (row X i).length ≤ 140737488351232) ∧ Kd.C Kd.bool W A' B.length B ∧ B.length ≤ c' ∧ B.length ≤ 140737488351232 := by
  obtain ⟨v0, v1, v2, v3, y0, y1, y2, y3, n, rfl, rfl, rfl, h0, h1, h2, h3⟩ := open_agg4 Try.underlying82 (by kernel_rfl) (by kernel_rfl) hv h
  obtain ⟨K, e0, e0', wK⟩ := DataW.trod_int (k := .i64) Try.underlying3 h0
  obtain ⟨M, e1, e1', wM⟩ := DataW.trod_int (k := .i64) Try.underlying3 h1
  obtain rfl : v0 = .int .i64 K := by simpa using e0
  obtain rfl : v1 = .int .i64 M := by simpa using e1
  have hs2 : ∃ a len cap, v2 = .slice a len cap := by
    rcases open_slice Try.underlying51 h2 with ⟨hc, _⟩ | ⟨a, len, cap, _, _, _, _, hc, _⟩
    · exact ⟨none, 0, 0, by simpa using hc⟩
    · exact ⟨some a, len, cap, by simpa using hc⟩
  have hs3 : ∃ a len cap, v3 = .slice a len cap := by
    rcases open_slice Try.underlying78 h3 with ⟨hc, _⟩ | ⟨a, len, cap, _, _, _, _, hc, _⟩
    · exact ⟨none, 0, 0, by simpa using hc⟩
    · exact ⟨some a, len, cap, by simpa using hc⟩
  obtain ⟨A, l2, c2, rfl⟩ := hs2
  obtain ⟨A', l3, c3, rfl⟩ := hs3
  have hw2 : ∀ x ∈ y2.1.weights Try.prog 51, x ≤ reachBytes := fun x hx => hw x (by
    simp only [DataW.weights, Try.underlying82]
    exact DataW.weights_mem_each (j := 2) rfl rfl x hx)
  have hw3 : ∀ x ∈ y3.1.weights Try.prog 78, x ≤ reachBytes := fun x hx => hw x (by
    simp only [DataW.weights, Try.underlying82]
    exact DataW.weights_mem_each (j := 3) rfl rfl x hx)
  obtain ⟨X, hl, hc, hC, hs, hr⟩ := rows_arg (d := y2.1) (ps := y2.2) ⟨n, h2⟩ hw2
  obtain ⟨B, hl', hc', hC', hs'⟩ := bools_arg (d := y3.1) (ps := y3.2) ⟨n, h3⟩ hw3
  subst hl hl'
  rw [← oM_length X] at hc hC
  exact ⟨K, M, A, c2, X, A', c3, B, by rw [oM_length], wK, wM, hC, hc, hs, hr, hC', hc', hs'⟩
end Go.Proofs.Ytbogmlckbkogiaa.H
