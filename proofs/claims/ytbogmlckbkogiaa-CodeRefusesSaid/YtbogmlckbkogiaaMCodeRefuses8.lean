/- Words and walks that the claim CodeRefuses leans on (what it does not use is left out). -/
import Derived.Test.YtbogmlckbkogiaaMCodeRefuses6
import Derived.Test.YtbogmlckbkogiaaMCodeRefuses1
import Derived.Test.YtbogmlckbkogiaaMCodeRefuses2
import Derived.OpenShut
import Derived.Test.YtbogmlckbkogiaaMCodeRefuses7
import Derived.Test.YtbogmlckbkogiaaMCodeRefuses4
import Derived.Test.YtbogmlckbkogiaaMCodeRefuses3
import Derived.Deep.Matrix
import Derived.SizedLaws
import Derived.ChangeSlices
import Derived.Deep.Grids
import Derived.Lib.SmallJoins
namespace Go.Proofs.Ytbogmlckbkogiaa.Red
open Go.RowKit Go.Proofs.YtbogmlckbkogiaaW.PrintWords Go.Proofs.Ytbogmlckbkogiaa.Leaf Go.Proofs.Ytbogmlckbkogiaa.Gf Go.Proofs.Ytbogmlckbkogiaa.H Go.Proofs.Ytbogmlckbkogiaa.Mx Go.Proofs.Ytbogmlckbkogiaa.P
set_option linter.unusedVariables false
set_option linter.unusedSimpArgs false
set_option maxRecDepth 100000
theorem aw_enc : encR 2 1 [[5#8], [7#8]] = (oM [[5#8], [7#8], row (mulM (cauM 2 1) [[5#8], [7#8]]) 2], 0) := by decide +kernel
theorem aw_one : (row (mulM (cauM 2 1) [[5#8], [7#8]]) 2).length = 1 := by decide +kernel
theorem aw_dec : (decR 2 1 [[], [7#8], row (mulM (cauM 2 1) [[5#8], [7#8]]) 2] [false, true, true]).2 = 0 ∧ (decR 2 1 [[], [7#8], row (mulM (cauM 2 1) [[5#8], [7#8]]) 2] [false, true, true]).1.length = 3 ∧ (rd_L1 (decR 2 1 [[], [7#8], row (mulM (cauM 2 1) [[5#8], [7#8]]) 2] [false, true, true]).1 0).length = 1 ∧ rd (rd_L1 (decR 2 1 [[], [7#8], row (mulM (cauM 2 1) [[5#8], [7#8]]) 2] [false, true, true]).1 0) 0 = 5 := by decide +kernel
theorem code_Decode.f_oM (k m : Int) (hk : -9223372036854775808 ≤ k) (A : Mat) (hr : ∀ i, i < A.length → (row A i).length ≤ 140737488355327) (H : List Bool) : code_Decode.f k m (oM A) H = some (decR k m A H) := by
  unfold code_Decode.f
  rw [if_pos, unM_oM]
  refine ⟨bytes_oM A, hk, ?_⟩
  rw [List.all_eq_true]
  intro x hx
  obtain ⟨r, hr2, rfl⟩ := List.mem_map.1 hx
  obtain ⟨i, hi, rfl⟩ := List.mem_iff_getElem.1 hr2
  have e : row A i = A[i] := by unfold row; rw [List.getD_eq_getElem?_getD, List.getElem?_eq_getElem hi]; rfl
  rw [ofL_length, ← e]
  exact decide_eq_true (hr i hi)
theorem evAwake03 : Ev (fun k => mooringlaw03_awake.f k) true := by
  unfold mooringlaw03_awake.f
  have e : ([([5] : List Int), ([7] : List Int)] : List (List Int)) = oM [[5#8], [7#8]] := by decide +kernel
  rw [e]
  refine Ev.bind (evEncode 2 1 (by decide) _ (by intro i hi; match i, hi with | 0, _ => decide | 1, _ => decide)) ?_
  rw [aw_enc]
  have h1 := aw_one
  have h2 := aw_dec
  generalize row (mulM (cauM 2 1) [[5#8], [7#8]]) 2 = R at *
  have e2 : (oM [[5#8], [7#8], R]).set (0 : Int).toNat ([] : List Int) = oM [[], [7#8], R] := rfl
  have hd := code_Decode.f_oM 2 1 (by decide) [[], [7#8], R] (by
    intro i hi
    match i, hi with
    | 0, _ => exact Nat.zero_le _
    | 1, _ => exact (show (1 : Nat) ≤ 140737488355327 by omega)
    | 2, _ => show R.length ≤ _; omega) [false, true, true]
  have e3 : (rd_L1 (oM [[5#8], [7#8], R]) 2).length = 1 := by show (ofL R).length = 1; rw [ofL_length]; exact h1
  simp only [e2, hd, e3, Option.bind_some]
  generalize decR 2 1 [[], [7#8], R] [false, true, true] = D at *
  obtain ⟨d1, d2, d3, d4⟩ := h2
  refine Ev.step (f := fun _ => some true) (fun k => ?_) (Ev.now _)
  simp only [d1, d2, d3, d4]
  rfl
theorem light_stop (a b : Int) (x : Int) : ∃ t, (if x ≤ 6000 then ((mooringref03_Code.f a b).bind fun t102 => (if t102 = true then (some (decide ((wrap64 (a * (wrap64 (a + b)))) ≤ 2500))) else (some true))) else (some false)) = some t := by
  by_cases h : x ≤ 6000
  · rw [if_pos h]
    unfold mooringref03_Code.f
    repeat' split
    all_goals first | exact ⟨_, rfl⟩ | (rw [Option.bind_some]; split <;> exact ⟨_, rfl⟩)
  · rw [if_neg h]
    exact ⟨_, rfl⟩
theorem light_l0 (a b : Int) (l : List (List Int)) (d : Nat) : ∀ (i : Nat) (x : Int), i ≤ 300 → i + d = 300 → ∃ t, Ev (fun k => mooringlaw03_light.l0 k a b l x (i : Int)) t := by
  induction d with
  | zero =>
    intro i x hi hd
    obtain ⟨t, ht⟩ := light_stop a b x
    refine ⟨t, Ev.step (f := fun _ => some t) (fun k => ?_) (Ev.now _)⟩
    simp only [mooringlaw03_light.l0]
    rw [if_neg (show ¬ (i : Int) < 300 by omega)]
    rw [ht, ite_self]
  | succ d ih =>
    intro i x hi hd
    by_cases h : (i : Int) < (l.length : Int)
    · obtain ⟨t, ht⟩ := ih (i + 1) (wrap64 (x + ((rd_L1 l (i : Int)).length : Int))) (by omega) (by omega)
      refine ⟨t, Ev.step (f := fun k => mooringlaw03_light.l0 k a b l (wrap64 (x + ((rd_L1 l (i : Int)).length : Int))) ((i + 1 : Nat) : Int)) (fun k => ?_) ht⟩
      simp only [mooringlaw03_light.l0]
      rw [if_pos h, if_pos (by omega), if_pos (by omega), w64 ((i : Int) + 1) (by omega) (by omega)]
      rfl
    · obtain ⟨t, ht⟩ := light_stop a b x
      refine ⟨t, Ev.step (f := fun _ => some t) (fun k => ?_) (Ev.now _)⟩
      simp only [mooringlaw03_light.l0]
      rw [if_neg h, ht]
theorem evLight03 (a b : Int) (l : List (List Int)) : ∃ t, Ev (fun k => mooringlaw03_light.f k a b l) t := by
  unfold mooringlaw03_light.f
  exact light_l0 a b l 300 0 0 (by omega) (by omega)
end Go.Proofs.Ytbogmlckbkogiaa.Red
namespace Go.Proofs.Ytbogmlckbkogiaa.Red
open Go.RowKit Go.Proofs.YtbogmlckbkogiaaW.PrintWords Go.Proofs.Ytbogmlckbkogiaa.Leaf Go.Proofs.Ytbogmlckbkogiaa.Gf Go.Proofs.Ytbogmlckbkogiaa.H Go.Proofs.Ytbogmlckbkogiaa.Mx Go.Proofs.Ytbogmlckbkogiaa.P
set_option linter.unusedVariables false
set_option linter.unusedSimpArgs false
theorem row_selM (A : Mat) (H : List Bool) (i : Nat) (hi : i < (selN H H.length).length) : row (selM A H) i = row A ((selN H H.length).getD i 0) := by
  unfold selM
  show ((selN H H.length).map _).getD i [] = _
  rw [List.getD_eq_getElem?_getD, List.getElem?_map, List.getD_eq_getElem?_getD, List.getElem?_eq_getElem hi]
  rfl
theorem row_take3 (A : Mat) (k i : Nat) (hi : i < k) : row (A.take k) i = row A i := by
  unfold row
  rw [List.getD_eq_getElem?_getD, List.getElem?_take_of_lt hi, List.getD_eq_getElem?_getD]
theorem getD_take (l : List Nat) (k i : Nat) (hi : i < k) : (l.take k).getD i 0 = l.getD i 0 := by
  rw [List.getD_eq_getElem?_getD, List.getElem?_take_of_lt hi, List.getD_eq_getElem?_getD]
/-- A product's row is told by the left matrix' row. -/
theorem row_mulM_eq {A A' C : Mat} {n n' m p : Nat} (hA : Reg A n m) (hA' : Reg A' n' m) (hC : Reg C m p) (hm : 0 < m) {i i' : Nat} (hi : i < n) (hi' : i' < n') (h : row A i = row A' i') : row (mulM A C) i = row (mulM A' C) i' := by
  refine ext0 (by rw [(mulM_reg hA hC hm).2 i hi, (mulM_reg hA' hC hm).2 i' hi']) fun j hj => ?_
  rw [(mulM_reg hA hC hm).2 i hi] at hj
  have h1 := el_mulM hA hC hm hi hj
  have h2 := el_mulM hA' hC hm hi' hj
  unfold el at h1 h2
  rw [h1, h2]
  unfold mm
  simp only [h]
theorem cauM_take {k m : Nat} : (cauM k m).take k = idM k := by
  have h1 : Reg ((cauM k m).take k) k k := ⟨by rw [List.length_take, (cauM_reg k m).1]; omega, fun i hi => by rw [row_take3 _ _ _ hi]; exact (cauM_reg k m).2 i (by omega)⟩
  refine mat_ext h1 (matF_reg k k I) fun i j hi hj => ?_
  rw [idM_eq, el_matF I hi hj]
  show at0 (row ((cauM k m).take k) i) j = _
  rw [row_take3 _ _ _ hi]
  show el (cauM k m) i j = _
  unfold cauM
  rw [el_matF (cau k m) (by omega) hj]
  unfold cau
  rw [if_pos hi]
theorem mulM_take {A C : Mat} {n m p k : Nat} (hA : Reg A n m) (hC : Reg C m p) (hm : 0 < m) (hk : k ≤ n) : (mulM A C).take k = mulM (A.take k) C := by
  have hA2 : Reg (A.take k) k m := reg_take hA hk
  refine mat_ext (reg_take (mulM_reg hA hC hm) hk) (mulM_reg hA2 hC hm) fun i j hi hj => ?_
  show at0 (row ((mulM A C).take k) i) j = at0 (row (mulM (A.take k) C) i) j
  rw [row_take3 _ _ _ hi, row_mulM_eq hA hA2 hC hm (by omega) hi (row_take3 _ _ _ hi).symm]
/-- What is decoded out of k shards of one length: a codeword, whose rows at those shards are they. -/
theorem decM_law {k m p : Nat} (hk : 1 ≤ k) (h : k + m ≤ 255) {H : List Bool} (hH : H.length = k + m) (hn : k ≤ (selN H H.length).length) {A : Mat} (hS : Reg (selM A H) (selN H H.length).length p) :
    ∃ Y : Mat, Reg Y k p ∧ decM k m A H = mulM (cauM k m) Y ∧ (decM k m A H).take k = Y ∧ ∀ i, i < k → row (decM k m A H) ((selN H H.length).getD i 0) = row A ((selN H H.length).getD i 0) := by
  obtain ⟨h1, hP, X, hX, hXr, e1, e2⟩ := pic_inverse hk h hH hn
  have hT : Reg ((selM A H).take k) k p := reg_take hS hn
  have hY := mulM_reg hXr hT hk
  refine ⟨mulM X ((selM A H).take k), hY, ?_, ?_, fun i hi => ?_⟩
  · unfold decM
    rw [hX, unM_oM]
  · unfold decM
    rw [hX, unM_oM, mulM_take (cauM_reg k m) hY hk (Nat.le_add_right k m), cauM_take, mulM_id hY hk]
  · have hlt : (selN H H.length).getD i 0 < k + m := by
      have := selN_lt (getD_mem (l := selN H H.length) (i := i) (by omega))
      omega
    unfold decM
    rw [hX, unM_oM]
    have hl : ((selN H H.length).take k).length = k := by rw [List.length_take]; omega
    have e3 : row (picM k m H) i = row (cauM k m) ((selN H H.length).getD i 0) := by
      unfold picM
      rw [row_rowsM _ _ _ (by omega), getD_take _ _ _ hi]
    rw [← row_mulM_eq hP (cauM_reg k m) hY hk hi hlt e3, ← mulM_assoc hP hXr hT hk hk, e1, mulM_id hT hk, row_take3 _ _ _ hi, row_selM _ _ _ (by omega)]
/-- How many of them one has. -/
theorem selN_snoc (H : List Bool) (i : Nat) : (selN H (i + 1)) = selN H i ++ (if H.getD i false = true then [i] else []) := by
  by_cases h : H.getD i false = true
  · rw [selN_yes h, if_pos h]
  · rw [selN_no (by simpa using h), if_neg h, List.append_nil]
/-- Number i one has: it stands where as many stand before it. -/
theorem selN_at (H : List Bool) (d : Nat) : ∀ i n, i + d = n → 0 < d → H.getD i false = true → (selN H n).getD (selN H i).length 0 = i ∧ (selN H i).length < (selN H n).length := by
  induction d with
  | zero => intro i n _ h0; omega
  | succ d ih =>
    intro i n hn _ hi
    by_cases hd : d = 0
    · subst hd
      obtain rfl : n = i + 1 := by omega
      rw [selN_yes hi]
      refine ⟨?_, by rw [List.length_append]; exact Nat.lt_succ_self _⟩
      rw [List.getD_eq_getElem?_getD, List.getElem?_append_right (Nat.le_refl _), Nat.sub_self]
      rfl
    · obtain ⟨n', rfl⟩ : ∃ n', n = n' + 1 := ⟨n - 1, by omega⟩
      obtain ⟨h1, h2⟩ := ih i n' (by omega) (by omega) hi
      rw [selN_snoc]
      refine ⟨?_, by rw [List.length_append]; omega⟩
      rw [List.getD_eq_getElem?_getD, List.getElem?_append_left h2, ← List.getD_eq_getElem?_getD]
      exact h1
end Go.Proofs.Ytbogmlckbkogiaa.Red
namespace Go.Proofs.Ytbogmlckbkogiaa.P
open Go.Proofs.Ytbogmlckbkogiaa.Leaf
open Go.RowKit Go.Proofs.YtbogmlckbkogiaaW.PrintWords Go.Proofs.YtbogmlckbkogiaaW.PrintLast Go.Proofs.YtbogmlckbkogiaaW.PrintMore
attribute [local go_sem] max2_int min2_int max_two min_two max_three min_three max_four min_four   -- for this text's walks alone
set_option linter.unusedVariables false
set_option linter.unusedSimpArgs false
def code_Check.j0 : Nat → Int → Int → List (List Int) → Bool → Option (Bool × Int)
  | 0, _, _, _, _ => none
  | k + 1, x0, x1, x2, x27 => if x27 = true then (some (false, 1)) else (if 0 ≤ x0 then (if x0 ≤ (x2.length : Int) then ((code_Encode.f k x0 x1 (x2.take (x0 : Int).toNat)).bind fun bt110 => ((code_same.f bt110.1 x2).bind fun t114 => (some (t114, 0)))) else (none)) else (none))
def code_Check.f (k : Nat) (a0 : Int) (a1 : Int) (l2 : List (List Int)) : Option (Bool × Int) := (matrix_Cauchy.f k a0 a1).bind fun bt101 => (if bt101.2 = 0 then ((code_even.f l2 (wrap64 (a0 + a1))).bind fun t105 => (code_Check.j0 k a0 a1 l2 (!t105))) else (code_Check.j0 k a0 a1 l2 true))
theorem code_Check.mono_l : ∀ k, (∀ y0 y1 y2 y3, LeO (code_Check.j0 k y0 y1 y2 y3) (code_Check.j0 (k + 1) y0 y1 y2 y3))
  | 0 => fun _ _ _ _ r h => by simp [code_Check.j0] at h
  | k + 1 => by
    have ih0 := code_Check.mono_l k
    · intro y0 y1 y2 y3
      unfold code_Check.j0
      repeat' first
      | (with_reducible exact ih0 _ _ _ _)
      | (with_reducible exact code_Encode.mono _ _ _ _)
      | (with_reducible exact matrix_Cauchy.mono _ _ _)
      | (with_reducible exact LeO.refl _)
      | (with_reducible exact LeO.none _)
      | (with_reducible refine LeO.ite ?_ ?_)
      | (with_reducible refine LeO.bind ?_ (fun _ => ?_))
      | exact ih0 _ _ _ _
      | exact code_Encode.mono _ _ _ _
      | exact matrix_Cauchy.mono _ _ _
      | exact LeO.none _
      | refine LeO.ite ?_ ?_
      | refine LeO.bind ?_ (fun _ => ?_)
theorem code_Check.mono : ∀ a0 a1 a2 k, LeO (code_Check.f k a0 a1 a2) (code_Check.f (k + 1) a0 a1 a2) := by
  intro a0 a1 a2 k
  have ih0 := code_Check.mono_l k
  unfold code_Check.f
  repeat' first
      | (with_reducible exact ih0 _ _ _ _)
      | (with_reducible exact code_Encode.mono _ _ _ _)
      | (with_reducible exact matrix_Cauchy.mono _ _ _)
      | (with_reducible exact LeO.refl _)
      | (with_reducible exact LeO.none _)
      | (with_reducible refine LeO.ite ?_ ?_)
      | (with_reducible refine LeO.bind ?_ (fun _ => ?_))
      | exact ih0 _ _ _ _
      | exact code_Encode.mono _ _ _ _
      | exact matrix_Cauchy.mono _ _ _
      | exact LeO.none _
      | refine LeO.ite ?_ ?_
      | refine LeO.bind ?_ (fun _ => ?_)
end Go.Proofs.Ytbogmlckbkogiaa.P
namespace Go.Proofs.Ytbogmlckbkogiaa.P
open Go.Proofs.Ytbogmlckbkogiaa.Leaf
open Go.RowKit Go.Proofs.YtbogmlckbkogiaaW.PrintWords Go.Proofs.YtbogmlckbkogiaaW.PrintLast Go.Proofs.YtbogmlckbkogiaaW.PrintMore
attribute [local go_sem] max2_int min2_int max_two min_two max_three min_three max_four min_four   -- for this text's walks alone
set_option linter.unusedVariables false
set_option linter.unusedSimpArgs false
def mooringlaw03_CodeChecks.f (k : Nat) (a0 : Int) (a1 : Int) (l2 : List (List Int)) : Option (Bool) := (mooringlaw03_light.f k a0 a1 l2).bind fun t101 => (if t101 = true then ((code_Check.f k a0 a1 l2).bind fun bt102 => ((mooringref03_Check.f k a0 a1 l2).bind fun bt104 => (if (bt102.1 == bt104.1) = true then (if bt102.2 = bt104.2 then ((mooringlaw03_awake.f k).bind fun t106 => (some t106)) else (some false)) else (some false)))) else ((mooringlaw03_awake.f k).bind fun t107 => (some t107)))
theorem mooringlaw03_CodeChecks.mono : ∀ a0 a1 a2 k, LeO (mooringlaw03_CodeChecks.f k a0 a1 a2) (mooringlaw03_CodeChecks.f (k + 1) a0 a1 a2) := by
  intro a0 a1 a2 k
  unfold mooringlaw03_CodeChecks.f
  repeat' first
      | (with_reducible exact code_Check.mono _ _ _ _)
      | (with_reducible exact mooringlaw03_awake.mono _)
      | (with_reducible exact mooringlaw03_light.mono _ _ _ _)
      | (with_reducible exact mooringref03_Check.mono _ _ _ _)
      | (with_reducible exact LeO.refl _)
      | (with_reducible exact LeO.none _)
      | (with_reducible refine LeO.ite ?_ ?_)
      | (with_reducible refine LeO.bind ?_ (fun _ => ?_))
      | exact code_Check.mono _ _ _ _
      | exact mooringlaw03_awake.mono _
      | exact mooringlaw03_light.mono _ _ _ _
      | exact mooringref03_Check.mono _ _ _ _
      | exact LeO.none _
      | refine LeO.ite ?_ ?_
      | refine LeO.bind ?_ (fun _ => ?_)
end Go.Proofs.Ytbogmlckbkogiaa.P
namespace Go.Proofs.Ytbogmlckbkogiaa.Pure
open Go.RowKit Go.Proofs.YtbogmlckbkogiaaW.PrintWords Go.Proofs.Ytbogmlckbkogiaa.Leaf Go.Proofs.Ytbogmlckbkogiaa.P Go.Proofs.Ytbogmlckbkogiaa.Gf Go.Proofs.Ytbogmlckbkogiaa.Red Go.Proofs.Ytbogmlckbkogiaa.H Go.Proofs.Ytbogmlckbkogiaa.Mx
set_option linter.unusedSimpArgs false
set_option linter.unusedVariables false
theorem encR_oM (a b : Int) (A : Mat) : ∃ M : Mat, (encR a b A).1 = oM M ∧ M.length ≤ 9223372036854775807 := by
  unfold encR
  by_cases h : codeB a b = true ∧ evenB A a = true
  · rw [if_pos h]
    refine ⟨_, rfl, ?_⟩
    unfold codeB at h
    simp only [Bool.and_eq_true, decide_eq_true_eq] at h
    unfold mulM
    rw [(matF_reg _ _ _).1, (cauM_reg _ _).1]
    omega
  · rw [if_neg h]
    exact ⟨[], rfl, by decide⟩
def chkR (a b : Int) (A : Mat) : Bool × Int :=
  if codeB a b = true ∧ evenB A (a + b) = true then ((encR a b (A.take a.toNat)).1 == oM A, 0) else (false, 1)
theorem same_beq (M A : Mat) : (oM M == oM A) = decide (M = A) := by
  by_cases h : M = A
  · rw [h, decide_eq_true rfl]
    exact beq_self_eq_true _
  · rw [decide_eq_false h]
    exact beq_eq_false_iff_ne.mpr fun e => h (oM_inj e)
theorem take_oM3 (A : Mat) (k : Nat) : (oM A).take k = oM (A.take k) := by unfold oM; rw [List.map_take]
theorem take_rows {A : Mat} {b : Nat} (hr : ∀ i, i < A.length → (row A i).length ≤ b) (k : Nat) : ∀ i, i < (A.take k).length → (row (A.take k) i).length ≤ b := by
  intro i hi
  rw [List.length_take] at hi
  have e : row (A.take k) i = row A i := by
    unfold row
    rw [List.getD_eq_getElem?_getD, List.getElem?_take_of_lt (by omega), List.getD_eq_getElem?_getD]
  rw [e]
  exact hr i (by omega)
theorem evRefCheck3 (a b : Int) (ha : -9223372036854775808 ≤ a) (A : Mat) (hs : A.length ≤ 9223372036854775807) (hr : ∀ i, i < A.length → (row A i).length ≤ 140737488355327) : Ev (fun k => mooringref03_Check.f k a b (oM A)) (chkR a b A) := by
  have j1 : Ev (fun k => mooringref03_Check.j0 k a b (oM A) true) (false, 1) := Ev.step (f := fun _ => some (false, 1)) (fun k => by simp only [mooringref03_Check.j0, if_true]) (Ev.now _)
  unfold mooringref03_Check.f chkR
  simp only [code_eq a b ha, Option.bind_some]
  rcases codeB_form a b with ⟨h1, k, m, rfl, rfl, hk, hm, h, e⟩ | ⟨h1, e⟩
  · have hw : wrap64 ((k + m : Nat) : Int) = ((k + m : Nat) : Int) := w64 _ (by omega) (by omega)
    simp only [if_true, h1, true_and, hw, ← Int.natCast_add]
    refine Ev.bind (evRefEven A hs ((k + m : Nat) : Int)) ?_
    cases h2 : evenB A ((k + m : Nat) : Int) with
    | false => simp only [Bool.not_false, Bool.false_eq_true, if_false]; exact j1
    | true =>
      have hA := (evenB_iff A (k + m)).1 h2
      simp only [Bool.not_true, if_true, Int.toNat_natCast]
      refine Ev.step (f := fun f => (mooringref03_Encode.f f (k : Int) (m : Int) (oM (A.take k))).bind fun bt110 => (mooringref02_Same.f f bt110.1 (oM A)).bind fun t114 => some (t114, 0)) (fun f => ?_) ?_
      · simp only [mooringref03_Check.j0, Bool.false_eq_true, if_false]
        rw [if_pos (by omega), if_pos (by rw [oM_length, hA.1]; omega), Int.toNat_natCast, take_oM3]
      · refine Ev.bind (evRefEncode (k : Int) (m : Int) (by omega) (A.take k) (by rw [List.length_take]; omega) (take_rows hr k)) ?_
        obtain ⟨M, e2, hM⟩ := encR_oM (k : Int) (m : Int) (A.take k)
        rw [e2, same_beq]
        exact Ev.bind (evSame M A hM) (Ev.now _)
  · simp only [h1, Bool.false_eq_true, if_false, false_and]
    exact j1
end Go.Proofs.Ytbogmlckbkogiaa.Pure
namespace Go.Proofs.Ytbogmlckbkogiaa.Pure
open Go.RowKit Go.Proofs.YtbogmlckbkogiaaW.PrintWords Go.Proofs.Ytbogmlckbkogiaa.Leaf Go.Proofs.Ytbogmlckbkogiaa.P Go.Proofs.Ytbogmlckbkogiaa.Gf Go.Proofs.Ytbogmlckbkogiaa.Red Go.Proofs.Ytbogmlckbkogiaa.H Go.Proofs.Ytbogmlckbkogiaa.Mx
set_option linter.unusedSimpArgs false
set_option linter.unusedVariables false
theorem rdB (H : List Bool) (i : Nat) : rdOf false H (i : Int) = H.getD i false := rfl
theorem selN_length_le (H : List Bool) (i : Nat) : (selN H i).length ≤ i := selN_le H i
theorem count_l0 (H : List Bool) (hl : H.length ≤ 140737488351232) (d : Nat) : ∀ i : Nat, i + d = H.length → Ev (fun k => mooringlaw03_count.l0 k H ((selN H i).length : Int) (i : Int)) ((selN H H.length).length : Int) := by
  induction d with
  | zero =>
    intro i hi
    obtain rfl : i = H.length := by omega
    refine Ev.step (f := fun _ => some ((selN H H.length).length : Int)) (fun k => ?_) (Ev.now _)
    simp only [mooringlaw03_count.l0]
    rw [if_neg (by omega)]
  | succ d ih =>
    intro i hi
    have h1 := selN_length_le H i
    have hn := ih (i + 1) (by omega)
    refine Ev.step (f := fun k => mooringlaw03_count.l0 k H ((selN H (i + 1)).length : Int) ((i + 1 : Nat) : Int)) (fun k => ?_) hn
    simp only [mooringlaw03_count.l0]
    rw [if_pos (by omega), if_pos (by omega), rdB, w64 ((i : Int) + 1) (by omega) (by omega)]
    by_cases h : H.getD i false = true
    · rw [if_pos h, selN_yes h, w64 (((selN H i).length : Int) + 1) (by omega) (by omega), List.length_append]
      rfl
    · rw [if_neg h, selN_no (by simpa using h)]
      rfl
theorem evCount3 (H : List Bool) (hl : H.length ≤ 140737488351232) : Ev (fun k => mooringlaw03_count.f k H) ((selN H H.length).length : Int) := by
  unfold mooringlaw03_count.f
  exact count_l0 H hl H.length 0 (by omega)
/-- The shards that one has are of one length. -/
def EvA (A : Mat) (H : List Bool) : Prop := ∀ u v, u ∈ selN H H.length → v ∈ selN H H.length → (row A u).length = (row A v).length
theorem evD_iff {A : Mat} {H : List Bool} (h0 : 0 < (selM A H).length) : evD A H = true ↔ EvA A H := by
  have hl := selM_length A H
  have e : evD A H = evenB (selM A H) ((selM A H).length : Int) := by
    unfold evD
    rw [code_even_eq _ _ (by omega)]
    rfl
  rw [e, evenB_iff]
  constructor
  · intro h u v hu hv
    obtain ⟨i, hi, rfl⟩ := List.mem_iff_getElem.1 hu
    obtain ⟨j, hj, rfl⟩ := List.mem_iff_getElem.1 hv
    have h1 := h.2 i (by omega)
    have h2 := h.2 j (by omega)
    rw [row_selM _ _ _ hi, List.getD_eq_getElem?_getD, List.getElem?_eq_getElem hi] at h1
    rw [row_selM _ _ _ hj, List.getD_eq_getElem?_getD, List.getElem?_eq_getElem hj] at h2
    exact h1.trans h2.symm
  · intro h
    refine ⟨rfl, fun i hi => ?_⟩
    rw [row_selM _ _ _ (by omega), row_selM _ _ _ (by omega)]
    exact h _ _ (getD_mem (by omega)) (getD_mem (by omega))
def Long (A : Mat) (H : List Bool) (i : Nat) (x : Int) : Prop := (selN H i = [] ∧ x = -1) ∨ (selN H i ≠ [] ∧ ∀ u, u ∈ selN H i → x = ((row A u).length : Int))
theorem long_good {A : Mat} {H : List Bool} {x : Int} (h : Long A H H.length x) : EvA A H := by
  intro u v hu hv
  rcases h with ⟨h, _⟩ | ⟨_, h⟩
  · rw [h] at hu
    exact absurd hu List.not_mem_nil
  · have h1 := h u hu
    have h2 := h v hv
    omega
theorem selN_mono (H : List Bool) {i n u : Nat} (h : i ≤ n) (hu : u ∈ selN H i) : u ∈ selN H n := by
  obtain ⟨h1, h2⟩ := List.mem_filter.1 hu
  exact List.mem_filter.2 ⟨List.mem_range.2 (by have := List.mem_range.1 h1; omega), h2⟩
theorem selN_self {H : List Bool} {i n : Nat} (h : i < n) (hi : H.getD i false = true) : i ∈ selN H n := List.mem_filter.2 ⟨List.mem_range.2 h, hi⟩
theorem ref_l0 (a0 a1 c0 c1 : Int) (X : List (List Int)) (e : Int) (A : Mat) (H : List Bool) (hAH : A.length = H.length) (hl : H.length ≤ 140737488351232)
    (hgood : EvA A H → ∀ x y, Ev (fun k => mooringlaw03_CodeRefuses.j2 k a0 a1 X e true x y false c0 c1 (oM A) H) true)
    (hbad : ¬ EvA A H → ∀ x y, Ev (fun k => mooringlaw03_CodeRefuses.j2 k a0 a1 X e false x y false c0 c1 (oM A) H) true) (d : Nat) :
    ∀ (i : Nat) (x : Int), i + d = H.length → Long A H i x → Ev (fun k => mooringlaw03_CodeRefuses.l0 k a0 a1 X e true x (i : Int) c0 c1 (oM A) H) true := by
  induction d with
  | zero =>
    intro i x hi hL
    obtain rfl : i = H.length := by omega
    refine Ev.step (f := fun k => mooringlaw03_CodeRefuses.j2 k a0 a1 X e true x (H.length : Int) false c0 c1 (oM A) H) (fun k => ?_) (hgood (long_good hL) _ _)
    simp only [mooringlaw03_CodeRefuses.l0, if_true, oM_length]
    rw [decide_eq_false (by omega)]
  | succ d ih =>
    intro i x hi hL
    refine Ev.step (f := fun k => mooringlaw03_CodeRefuses.j2 k a0 a1 X e true x (i : Int) true c0 c1 (oM A) H) (fun k => ?_) ?_
    · simp only [mooringlaw03_CodeRefuses.l0, if_true, oM_length]
      rw [decide_eq_true (by omega)]
    by_cases h : H.getD i false = true
    · rcases hL with ⟨h1, rfl⟩ | ⟨h1, h2⟩
      · have hL' : Long A H (i + 1) ((row A i).length : Int) := by
          refine .inr ⟨by rw [selN_yes h]; simp, fun u hu => ?_⟩
          rw [selN_yes h, h1] at hu
          obtain rfl : u = i := by simpa using hu
          rfl
        refine Ev.step (f := fun k => mooringlaw03_CodeRefuses.l0 k a0 a1 X e true ((row A i).length : Int) ((i + 1 : Nat) : Int) c0 c1 (oM A) H) (fun k => ?_) (ih (i + 1) _ (by omega) hL')
        simp only [mooringlaw03_CodeRefuses.j2, if_true]
        rw [if_pos (by omega), if_pos (by omega), rdB, if_pos h, if_pos (by omega), if_pos (by rw [oM_length]; omega), rd_oM, ofL_length, w64 ((i : Int) + 1) (by omega) (by omega)]
        rfl
      · have hx : 0 ≤ x := by
          obtain ⟨u, hu⟩ := List.exists_mem_of_ne_nil _ h1
          have := h2 u hu
          omega
        by_cases hq : x = ((row A i).length : Int)
        · have hL' : Long A H (i + 1) ((row A i).length : Int) := by
            refine .inr ⟨by rw [selN_yes h]; simp, fun u hu => ?_⟩
            rw [selN_yes h] at hu
            rcases List.mem_append.1 hu with hu | hu
            · rw [← hq]; exact h2 u hu
            · obtain rfl : u = i := by simpa using hu
              rfl
          refine Ev.step (f := fun k => mooringlaw03_CodeRefuses.l0 k a0 a1 X e true ((row A i).length : Int) ((i + 1 : Nat) : Int) c0 c1 (oM A) H) (fun k => ?_) (ih (i + 1) _ (by omega) hL')
          simp only [mooringlaw03_CodeRefuses.j2, if_true]
          rw [if_pos (by omega), if_pos (by omega), rdB, if_pos h, if_neg (by omega), if_pos (by rw [oM_length]; omega), rd_oM, ofL_length, w64 ((i : Int) + 1) (by omega) (by omega)]
          rw [show (x == ((row A i).length : Int)) = true from beq_iff_eq.2 hq]
          rfl
        · have hn : ¬ EvA A H := by
            intro hE
            obtain ⟨u, hu⟩ := List.exists_mem_of_ne_nil _ h1
            have h3 := h2 u hu
            have h4 := hE u i (selN_mono H (by omega) hu) (selN_self (by omega) h)
            omega
          refine Ev.step (f := fun k => mooringlaw03_CodeRefuses.l0 k a0 a1 X e false ((row A i).length : Int) ((i + 1 : Nat) : Int) c0 c1 (oM A) H) (fun k => ?_) ?_
          · simp only [mooringlaw03_CodeRefuses.j2, if_true]
            rw [if_pos (by omega), if_pos (by omega), rdB, if_pos h, if_neg (by omega), if_pos (by rw [oM_length]; omega), rd_oM, ofL_length, w64 ((i : Int) + 1) (by omega) (by omega)]
            rw [show (x == ((row A i).length : Int)) = false from beq_eq_false_iff_ne.2 hq]
            rfl
          · refine Ev.step (f := fun k => mooringlaw03_CodeRefuses.j2 k a0 a1 X e false ((row A i).length : Int) ((i + 1 : Nat) : Int) false c0 c1 (oM A) H) (fun k => ?_) (hbad hn _ _)
            simp only [mooringlaw03_CodeRefuses.l0, Bool.false_eq_true, if_false]
    · have hL' : Long A H (i + 1) x := by
        have e1 : selN H (i + 1) = selN H i := selN_no (by simpa using h)
        unfold Long
        rw [e1]
        exact hL
      refine Ev.step (f := fun k => mooringlaw03_CodeRefuses.l0 k a0 a1 X e true x ((i + 1 : Nat) : Int) c0 c1 (oM A) H) (fun k => ?_) (ih (i + 1) _ (by omega) hL')
      simp only [mooringlaw03_CodeRefuses.j2, if_true]
      rw [if_pos (by omega), if_pos (by omega), rdB, if_neg h, w64 ((i : Int) + 1) (by omega) (by omega)]
      rfl
theorem ref_l1 (k0 : Nat) (c0 c1 : Int) (D A : Mat) (H : List Bool) (hDH : D.length = H.length) (hAH : A.length = H.length) (hl : H.length ≤ 140737488351232) (hk : k0 ≤ 255)
    (hrow : ∀ i, i < k0 → row D ((selN H H.length).getD i 0) = row A ((selN H H.length).getD i 0)) (d : Nat) :
    ∀ i : Nat, i + d = H.length → Ev (fun k => mooringlaw03_CodeRefuses.l1 k (k0 : Int) (oM D) ((min k0 (selN H i).length : Nat) : Int) (i : Int) c0 c1 (oM A) H) true := by
  induction d with
  | zero =>
    intro i hi
    obtain rfl : i = H.length := by omega
    refine Ev.step (f := fun k => (mooringlaw03_awake.f k).bind fun t118 => (some t118)) (fun k => ?_) (Ev.bind evAwake03 (Ev.now _))
    simp only [mooringlaw03_CodeRefuses.l1]
    rw [if_neg (by rw [oM_length]; omega)]
  | succ d ih =>
    intro i hi
    have hn := ih (i + 1) (by omega)
    by_cases h : H.getD i false = true
    · by_cases hc : (selN H i).length < k0
      · have hs := selN_at H (d + 1) i H.length hi (by omega) h
        have hr := hrow _ hc
        rw [hs.1] at hr
        refine Ev.step (f := fun k => mooringlaw03_CodeRefuses.j5 k (k0 : Int) (oM D) ((min k0 (selN H i).length : Nat) : Int) (i : Int) true c0 c1 (oM A) H) (fun k => ?_) ?_
        · simp only [mooringlaw03_CodeRefuses.l1]
          rw [if_pos (by rw [oM_length]; omega), if_pos (by omega), if_pos (by omega), rdB, if_pos h, decide_eq_true (by omega)]
        · refine Ev.step (f := fun k => mooringlaw03_CodeRefuses.l1 k (k0 : Int) (oM D) ((min k0 (selN H (i + 1)).length : Nat) : Int) ((i + 1 : Nat) : Int) c0 c1 (oM A) H) (fun k => ?_) hn
          simp only [mooringlaw03_CodeRefuses.j5, if_true]
          rw [if_pos (by omega), if_pos (by rw [oM_length]; omega), if_pos (by rw [oM_length]; omega), rd_oM, rd_oM, if_pos (by rw [hr]), w64 ((i : Int) + 1) (by omega) (by omega), w64 _ (by omega) (by omega), selN_yes h, List.length_append]
          rw [show ((min k0 (selN H i).length : Nat) : Int) + 1 = ((min k0 ((selN H i).length + [i].length) : Nat) : Int) by rw [show [i].length = 1 from rfl]; omega]
          rfl
      · refine Ev.step (f := fun k => mooringlaw03_CodeRefuses.j5 k (k0 : Int) (oM D) ((min k0 (selN H i).length : Nat) : Int) (i : Int) false c0 c1 (oM A) H) (fun k => ?_) ?_
        · simp only [mooringlaw03_CodeRefuses.l1]
          rw [if_pos (by rw [oM_length]; omega), if_pos (by omega), if_pos (by omega), rdB, if_pos h, decide_eq_false (by omega)]
        · refine Ev.step (f := fun k => mooringlaw03_CodeRefuses.l1 k (k0 : Int) (oM D) ((min k0 (selN H (i + 1)).length : Nat) : Int) ((i + 1 : Nat) : Int) c0 c1 (oM A) H) (fun k => ?_) hn
          simp only [mooringlaw03_CodeRefuses.j5, Bool.false_eq_true, if_false]
          rw [w64 ((i : Int) + 1) (by omega) (by omega), selN_yes h, List.length_append]
          rw [show min k0 ((selN H i).length + [i].length) = min k0 (selN H i).length by rw [show [i].length = 1 from rfl]; omega]
          rfl
    · refine Ev.step (f := fun k => mooringlaw03_CodeRefuses.j5 k (k0 : Int) (oM D) ((min k0 (selN H i).length : Nat) : Int) (i : Int) false c0 c1 (oM A) H) (fun k => ?_) ?_
      · simp only [mooringlaw03_CodeRefuses.l1]
        rw [if_pos (by rw [oM_length]; omega), if_pos (by omega), if_pos (by omega), rdB, if_neg h]
      · refine Ev.step (f := fun k => mooringlaw03_CodeRefuses.l1 k (k0 : Int) (oM D) ((min k0 (selN H (i + 1)).length : Nat) : Int) ((i + 1 : Nat) : Int) c0 c1 (oM A) H) (fun k => ?_) hn
        simp only [mooringlaw03_CodeRefuses.j5, Bool.false_eq_true, if_false]
        rw [w64 ((i : Int) + 1) (by omega) (by omega), selN_no (by simpa using h)]
        rfl
/-- A codeword is told to be one. -/
theorem chk_code {k m p : Nat} (hk : 1 ≤ k) (hm : 1 ≤ m) (h : k + m ≤ 255) {Y : Mat} (hY : Reg Y k p) (e : (mulM (cauM k m) Y).take k = Y) (hc : codeB (k : Int) (m : Int) = true) : chkR (k : Int) (m : Int) (mulM (cauM k m) Y) = (true, 0) := by
  have hD := mulM_reg (cauM_reg k m) hY hk
  have h0 : (row (mulM (cauM k m) Y) 0).length = p := hD.2 0 (by omega)
  have hY0 : (row Y 0).length = p := hY.2 0 (by omega)
  have e1 : evenB (mulM (cauM k m) Y) ((k : Int) + (m : Int)) = true := by
    rw [← Int.natCast_add]
    exact (evenB_iff _ _).2 (by rw [h0]; exact hD)
  have e2 : evenB Y (k : Int) = true := (evenB_iff _ _).2 (by rw [hY0]; exact hY)
  unfold chkR
  rw [if_pos ⟨hc, e1⟩, Int.toNat_natCast, e]
  unfold encR
  rw [if_pos ⟨hc, e2⟩, Int.toNat_natCast, Int.toNat_natCast]
  rw [beq_self_eq_true]
theorem CodeRefuses (a : Int) (wa : (Lit.int .i64 a).wf = true) (b : Int) (wb : (Lit.int .i64 b).wf = true) (c0 : Int) (w0 : (Lit.int .i64 c0).wf = true) (c1 : Int) (w1 : (Lit.int .i64 c1).wf = true) (A : Mat) (hs : A.length * 24 ≤ 140737488351232) (hr : ∀ i, i < A.length → (row A i).length ≤ 140737488351232) (H : List Bool) (hH : H.length ≤ 140737488351232) : Ev (fun k => mooringlaw03_CodeRefuses.f k a b c0 c1 (oM A) H) true := by
  have ha := bounds_i64 wa
  have hb := bounds_i64 wb
  obtain ⟨t, ht⟩ := evLight03 a b (oM A)
  unfold mooringlaw03_CodeRefuses.f
  refine Ev.bind ht ?_
  cases t with
  | false =>
    simp only [Bool.false_eq_true, if_false]
    exact Ev.bind evAwake03 (Ev.now _)
  | true =>
    have hr' : ∀ i, i < A.length → (row A i).length ≤ 140737488355327 := fun i hi => by have := hr i hi; omega
    simp only [if_true, code_Decode.f_oM a b ha.1 A hr' H, Option.bind_some, code_eq a b ha.1]
    have bad : (decR a b A H).2 = 1 ∧ (decR a b A H).1 = [] → ∀ x y, Ev (fun k => mooringlaw03_CodeRefuses.j2 k a b (decR a b A H).1 (decR a b A H).2 false x y false c0 c1 (oM A) H) true := by
      intro hd x y
      refine Ev.step (f := fun k => (mooringlaw03_awake.f k).bind fun t113 => (some t113)) (fun k => ?_) (Ev.bind evAwake03 (Ev.now _))
      simp only [mooringlaw03_CodeRefuses.j2, Bool.false_eq_true, if_false, hd.1, hd.2, if_true]
      rfl
    have bad0 : (decR a b A H).2 = 1 ∧ (decR a b A H).1 = [] → Ev (fun k => mooringlaw03_CodeRefuses.j0 k a b (decR a b A H).1 (decR a b A H).2 false c0 c1 (oM A) H) true := by
      intro hd
      refine Ev.step (f := fun k => mooringlaw03_CodeRefuses.l0 k a b (decR a b A H).1 (decR a b A H).2 false (-1) 0 c0 c1 (oM A) H) (fun k => by simp only [mooringlaw03_CodeRefuses.j0]) ?_
      refine Ev.step (f := fun k => mooringlaw03_CodeRefuses.j2 k a b (decR a b A H).1 (decR a b A H).2 false (-1) 0 false c0 c1 (oM A) H) (fun k => by simp only [mooringlaw03_CodeRefuses.l0, Bool.false_eq_true, if_false]) (bad hd _ _)
    rcases codeB_form a b with ⟨h1, k, m, rfl, rfl, hk, hm, h, e⟩ | ⟨h1, e⟩
    · simp only [h1, if_true, oM_length]
      have hw : wrap64 ((k : Int) + (m : Int)) = (k : Int) + (m : Int) := w64 _ (by omega) (by omega)
      rw [hw]
      by_cases hlen : (A.length : Int) = (H.length : Int)
      · simp only [hlen, if_true]
        by_cases hkm : (H.length : Int) = (k : Int) + (m : Int)
        · rw [show ((H.length : Int) == (k : Int) + (m : Int)) = true from beq_iff_eq.2 hkm]
          refine Ev.step (f := fun f => mooringlaw03_CodeRefuses.l0 f (k : Int) (m : Int) (decR (k : Int) (m : Int) A H).1 (decR (k : Int) (m : Int) A H).2 true (-1) ((0 : Nat) : Int) c0 c1 (oM A) H) (fun f => by simp only [mooringlaw03_CodeRefuses.j0]; rfl) ?_
          refine ref_l0 _ _ _ _ _ _ A H (by omega) hH ?_ ?_ H.length 0 (-1) (by omega) (.inl ⟨rfl, rfl⟩)
          · intro hE x y
            have hdec : decR (k : Int) (m : Int) A H = if ((selM A H).length : Int) < (k : Int) then ([], 4) else (oM (decM k m A H), 0) := by
              unfold decR
              rw [if_pos ⟨h1, by omega, hkm⟩, if_neg, Int.toNat_natCast, Int.toNat_natCast]
              rintro ⟨h2, h3⟩
              rw [(evD_iff h2).2 hE] at h3
              cases h3
            refine Ev.step (f := fun f => (mooringlaw03_count.f f H).bind fun t114 => (if t114 < (k : Int) then (if (decR (k : Int) (m : Int) A H).2 = 4 then (if ((decR (k : Int) (m : Int) A H).1.length : Int) = 0 then ((mooringlaw03_awake.f f).bind fun t115 => (some t115)) else (some false)) else (some false)) else ((mooringref03_Check.f f (k : Int) (m : Int) (decR (k : Int) (m : Int) A H).1).bind fun bt116 => (if (decR (k : Int) (m : Int) A H).2 = 0 then (if bt116.2 = 0 then (mooringlaw03_CodeRefuses.j3 f (k : Int) (decR (k : Int) (m : Int) A H).1 (!bt116.1) c0 c1 (oM A) H) else (mooringlaw03_CodeRefuses.j3 f (k : Int) (decR (k : Int) (m : Int) A H).1 true c0 c1 (oM A) H)) else (mooringlaw03_CodeRefuses.j3 f (k : Int) (decR (k : Int) (m : Int) A H).1 true c0 c1 (oM A) H))))) (fun f => by simp only [mooringlaw03_CodeRefuses.j2, Bool.false_eq_true, if_false, if_true]) ?_
            refine Ev.bind (evCount3 H hH) ?_
            rw [selM_length] at hdec
            by_cases hn : ((selN H H.length).length : Int) < (k : Int)
            · rw [if_pos hn] at hdec
              simp only [hdec, if_pos hn, if_true]
              exact Ev.bind evAwake03 (Ev.now _)
            · rw [if_neg hn] at hdec
              have h0 : 0 < (selM A H).length := by rw [selM_length]; omega
              have hS : Reg (selM A H) (selN H H.length).length (row (selM A H) 0).length := by
                rw [← selM_length A H]
                refine ⟨rfl, fun i hi => ?_⟩
                rw [selM_length] at hi h0
                rw [row_selM _ _ _ hi, row_selM _ _ _ h0]
                exact hE _ _ (getD_mem hi) (getD_mem h0)
              obtain ⟨Y, hY, e1, e2, e3⟩ := decM_law hk h (by omega) (by omega) hS
              have hD := mulM_reg (cauM_reg k m) hY hk
              rw [← e1] at hD
              have hp : (row (selM A H) 0).length ≤ 140737488351232 := by
                rw [row_selM _ _ _ (by omega)]
                exact hr _ (by have := selN_lt (getD_mem (l := selN H H.length) (i := 0) (by omega)); omega)
              simp only [hdec, if_neg hn, if_true]
              refine Ev.bind (evRefCheck3 (k : Int) (m : Int) ha.1 (decM k m A H) (by rw [hD.1]; omega) (fun i hi => by rw [hD.2 i (by rw [← hD.1]; exact hi)]; omega)) ?_
              have hc := chk_code hk hm h hY (by rw [← e1]; exact e2) h1
              rw [← e1] at hc
              simp only [hc, if_true, Bool.not_true]
              refine Ev.step (f := fun f => mooringlaw03_CodeRefuses.l1 f (k : Int) (oM (decM k m A H)) ((min k (selN H 0).length : Nat) : Int) ((0 : Nat) : Int) c0 c1 (oM A) H) (fun f => by simp only [mooringlaw03_CodeRefuses.j3, Bool.false_eq_true, if_false]; rw [show min k (selN H 0).length = 0 from Nat.min_zero k]; rfl) ?_
              exact ref_l1 k c0 c1 (decM k m A H) A H (by rw [hD.1]; omega) (by omega) hH (by omega) e3 H.length 0 (by omega)
          · intro hE x y
            refine bad ?_ x y
            have h0 : 0 < (selM A H).length := by
              refine Nat.pos_of_ne_zero fun h0 => hE ?_
              rw [selM_length] at h0
              intro u v hu
              rw [List.length_eq_zero_iff.1 h0] at hu
              exact absurd hu List.not_mem_nil
            have h3 : evD A H = false := by
              cases h4 : evD A H with
              | false => rfl
              | true => exact absurd ((evD_iff h0).1 h4) hE
            unfold decR
            rw [if_pos ⟨h1, by omega, hkm⟩, if_pos ⟨h0, h3⟩]
            exact ⟨rfl, rfl⟩
        · rw [show ((H.length : Int) == (k : Int) + (m : Int)) = false from beq_eq_false_iff_ne.2 hkm]
          refine bad0 ?_
          unfold decR
          rw [if_neg (fun hh => hkm hh.2.2)]
          exact ⟨rfl, rfl⟩
      · simp only [hlen, if_false]
        refine bad0 ?_
        unfold decR
        rw [if_neg (fun hh => hlen (by omega))]
        exact ⟨rfl, rfl⟩
    · simp only [h1, Bool.false_eq_true, if_false]
      refine bad0 ?_
      unfold decR
      rw [if_neg (fun hh => by rw [h1] at hh; cases hh.1)]
      exact ⟨rfl, rfl⟩
end Go.Proofs.Ytbogmlckbkogiaa.Pure
namespace Go.Proofs.Ytbogmlckbkogiaa.H
open Go.RowKit Go.Proofs.YtbogmlckbkogiaaW.PrintWords Go.Proofs.YtbogmlckbkogiaaW.PrintLast Go.Proofs.Ytbogmlckbkogiaa.Leaf Go.Proofs.Ytbogmlckbkogiaa.Gf Go.Proofs.Ytbogmlckbkogiaa.Red Go.Proofs.Ytbogmlckbkogiaa.P
set_option linter.unusedVariables false
set_option linter.unusedSimpArgs false
theorem C_rows_of (w : World) (ad : Addr) (xs : List (List Int)) (As : Nat → Option Addr) (cs : Nat → Nat) (hl : xs.length ≤ 9223372036854775807)
    (h : ∀ j, j < xs.length → w.cell? (ad.add j) = some (.slice (As j) (xs.getD j []).length (cs j)) ∧ (xs.getD j []).length ≤ cs j ∧ Kd.C (Kd.int .u8) w (As j) (xs.getD j []).length (xs.getD j [])) : Kd.C KR w (some ad) xs.length xs := by
  refine ⟨rfl, hl, fun _ => ⟨ad, rfl, fun j p hj => ?_⟩⟩
  obtain ⟨hlt, hp⟩ := List.getElem?_eq_some_iff.1 hj
  have hd : xs.getD j [] = p := by rw [List.getD_eq_getElem?_getD, hj]; rfl
  obtain ⟨h1, h2, h3⟩ := h j hlt
  rw [hd] at h1 h2 h3
  refine ⟨[.slice (As j) p.length (cs j)], rfl, ⟨As j, cs j, rfl, h2, h3⟩, fun i u hu => ?_⟩
  cases i with
  | zero =>
    cases hu
    show w.cell? (ad.add (j * 1 + 0)) = _
    rw [Nat.mul_one, Nat.add_zero]
    exact h1
  | succ i => simp at hu
def mooringlaw02_awake.f : Option Bool := some true
end Go.Proofs.Ytbogmlckbkogiaa.H
namespace Go.Proofs.Ytbogmlckbkogiaa.H
open Go.RowKit Go.ChangeShapes Go.WideShapes Go.Deep Go.Proofs.YtbogmlckbkogiaaW.PrintWords Go.Proofs.Ytbogmlckbkogiaa.Leaf Go.Proofs.Ytbogmlckbkogiaa.Gf Go.Proofs.Ytbogmlckbkogiaa.Red
set_option linter.unusedVariables false
theorem rows_weights {H : Type} {P : Program} {e : TypeId} : ∀ {l : List (DataW H)} {d : DataW H}, d ∈ l → ∀ n ∈ d.weights P e, n ∈ DataW.weightsAll P e l
  | d0 :: l, d, hd, n, hn => by
    simp only [DataW.weightsAll, List.mem_append]
    rcases List.mem_cons.1 hd with rfl | hd
    · exact Or.inl hn
    · exact Or.inr (rows_weights hd n hn)
theorem u8_range {x : Int} (h : (Lit.int .u8 x).wf = true) : 0 ≤ x ∧ x < 256 := by
  have h1 : 0 ≤ x ∧ x ≤ 255 := by simpa [Lit.wf, IntKind.min, IntKind.max, IntKind.signed, IntKind.bits] using h
  omega
theorem rows_arg {H : Type} {enc : TypeId × Value → H} {W : World} {a : Option Addr} {len cap : Nat} {d : DataW H} {ps : List MemPlace} (h : DataW.Trod enc Try.prog W 0 (fun _ => true) true 51 (.slice a len cap) d ps) (hw : ∀ x ∈ d.weights Try.prog 51, x ≤ reachBytes) :
    ∃ M : Mat, len = M.length ∧ len ≤ cap ∧ Kd.C KR W a len (oM M) ∧ len * 24 ≤ 140737488351232 ∧ ∀ i, i < M.length → (row M i).length ≤ 140737488351232 := by
  obtain ⟨fuel, hf⟩ := h
  rcases open_int_rows Try.underlying51 Try.underlying22 Try.underlying5 (by kernel_rfl) (by kernel_rfl) hf with ⟨hcs, _⟩ | ⟨a', len', cap', A, L, C, Z, hcs, _, hl, hm, hx, hrow⟩
  · simp [Value.cells] at hcs
    obtain ⟨rfl, rfl, rfl⟩ := hcs
    exact ⟨[], rfl, Nat.le_refl _, Kd.C_nil _ _, by decide, fun i hi => absurd hi (Nat.not_lt_zero _)⟩
  · simp [Value.cells] at hcs
    obtain ⟨rfl, rfl, rfl⟩ := hcs
    obtain ⟨rfl, _⟩ := Prod.mk.inj hx
    have hlen : len ≤ 9223372036854775807 := by unfold maxLen at hm; omega
    let M : Mat := (List.range len).map fun r => ((Z r).take (L r)).map toB
    have hML : M.length = len := by simp [M]
    have hMr : ∀ r, r < len → row M r = ((Z r).take (L r)).map toB := fun r hr => row_map len (fun r => ((Z r).take (L r)).map toB) r hr
    have hlr : ∀ r, r < len → (row M r).length = L r := by
      intro r hr
      obtain ⟨_, h1, _, h2, _⟩ := hrow r (by omega)
      rw [hMr r hr, List.length_map, List.length_take, h2]
      omega
    have hof : ∀ r, r < len → ofL (row M r) = (Z r).take (L r) := by
      intro r hr
      obtain ⟨_, _, _, _, hz, _⟩ := hrow r (by omega)
      rw [hMr r hr]
      unfold ofL
      rw [List.map_map]
      refine (List.map_congr_left fun x hx => ?_).trans (List.map_id' _)
      have := u8_range (hz x (List.mem_of_mem_take hx))
      exact ofB_toB x this.1 this.2
    refine ⟨M, hML.symm, hl, ?_, ?_, fun r hr => ?_⟩
    · have hC := C_rows_of W a' (oM M) A C (by rw [oM_length, hML]; exact hlen) (fun r hr => by
        rw [oM_length, hML] at hr
        obtain ⟨hc, h1, h2, h3, h4, h5, h6⟩ := hrow r (by omega)
        have e : (oM M).getD r [] = ofL (row M r) := map_getD M r
        rw [e, ofL_length, hlr r hr]
        refine ⟨hc, h1, by rw [ofL_length, hlr r hr], by unfold maxLen at h2; omega, fun hp => ?_⟩
        cases hA : A r with
        | none => have := h5 hA; omega
        | some ad =>
          obtain ⟨_, h7⟩ := h6 ad hA
          refine ⟨ad, rfl, fun j p hj => ⟨[.int .u8 p], rfl, rfl, fun i u hu => ?_⟩⟩
          cases i with
          | zero =>
            cases hu
            show W.cell? (ad.add (j * 1 + 0)) = _
            rw [Nat.mul_one, Nat.add_zero]
            have hj' := (List.getElem?_eq_some_iff.1 hj).1
            rw [ofL_length, hlr r hr] at hj'
            rw [h7 j (by omega)]
            rw [hof r hr, List.getElem?_take, if_pos hj'] at hj
            rw [List.getD_eq_getElem?_getD, hj]
            rfl
          | succ i => simp at hu)
      rw [oM_length, hML] at hC
      exact hC
    · have h1 : ((len + (cap - len)) * 24) ∈ (DataW.slice ((List.range len).map fun r => intRow (H := H) .u8 (A r) (L r) (Z r)) ((List.range (cap - len)).map fun j => intRow .u8 (A (len + j)) (L (len + j)) (Z (len + j)))).weights Try.prog 51 := by
        simp only [DataW.weights, Try.underlying51, List.length_map, List.length_range]
        rw [show Try.prog.bytesOf 22 = 24 by kernel_rfl]
        exact List.mem_cons_self
      have h2 := hw _ h1
      have : reachBytes = 140737488351232 := by decide
      omega
    · rw [hML] at hr
      obtain ⟨hc, h1, h2, h3, h4, h5, h6⟩ := hrow r (by omega)
      rw [hlr r hr]
      cases hA : A r with
      | none => have := h5 hA; omega
      | some ad =>
        have hmem : intRow (H := H) .u8 (A r) (L r) (Z r) ∈ (List.range len).map fun r => intRow (H := H) .u8 (A r) (L r) (Z r) := List.mem_map.2 ⟨r, List.mem_range.2 hr, rfl⟩
        have hin := hw (((lits (H := H) .u8 ((Z r).take (L r))).length + (lits (H := H) .u8 ((Z r).drop (L r))).length) * 1) (by
          simp only [DataW.weights, Try.underlying51]
          refine List.mem_cons_of_mem _ (List.mem_append_left _ (rows_weights hmem _ ?_))
          rw [hA]
          simp only [intRow, DataW.weights, Try.underlying22]
          rw [show Try.prog.bytesOf 5 = 1 by kernel_rfl]
          exact List.mem_cons_self)
        have : reachBytes = 140737488351232 := by decide
        simp [lits] at hin
        omega
end Go.Proofs.Ytbogmlckbkogiaa.H
namespace Go.Proofs.Ytbogmlckbkogiaa.H
open Go.RowKit Go.ChangeShapes Go.WideShapes Go.Deep Go.Joins Go.Proofs.YtbogmlckbkogiaaW.PrintWords Go.Proofs.Ytbogmlckbkogiaa.Leaf Go.Proofs.Ytbogmlckbkogiaa.Gf Go.Proofs.Ytbogmlckbkogiaa.Red
set_option linter.unusedVariables false
theorem bools_arg {H : Type} {enc : TypeId × Value → H} {W : World} {a : Option Addr} {len cap : Nat} {d : DataW H} {ps : List MemPlace} (h : DataW.Trod enc Try.prog W 0 (fun _ => true) true 78 (.slice a len cap) d ps) (hw : ∀ x ∈ d.weights Try.prog 78, x ≤ reachBytes) :
    ∃ B : List Bool, len = B.length ∧ len ≤ cap ∧ Kd.C Kd.bool W a len B ∧ len ≤ 140737488351232 := by
  obtain ⟨fuel, hf⟩ := h
  rcases open_bools Try.underlying78 Try.underlying4 (by kernel_rfl) hf with ⟨hcs, _⟩ | ⟨a', len', cap', B, hcs, _, hl, hm, hx, hcell⟩
  · simp [Value.cells] at hcs
    obtain ⟨rfl, rfl, rfl⟩ := hcs
    exact ⟨[], rfl, Nat.le_refl _, Kd.C_nil _ _, by decide⟩
  · simp [Value.cells] at hcs
    obtain ⟨rfl, rfl, rfl⟩ := hcs
    obtain ⟨rfl, _⟩ := Prod.mk.inj hx
    refine ⟨(List.range len).map B, by simp, hl, ?_, ?_⟩
    · refine Kd.C_of_reads (d := false) ⟨by simp, by unfold maxLen at hm; omega, fun h0 => ⟨a', rfl, fun j hj => ?_⟩⟩
      rw [hcell j (by omega), List.getD_eq_getElem?_getD, List.getElem?_map, List.getElem?_range hj]
      rfl
    · have hx := hw ((len + (cap - len)) * Try.prog.bytesOf 4) (by simp [boolRow, DataW.weights, Try.underlying78])
      rw [show Try.prog.bytesOf 4 = 1 by kernel_rfl] at hx
      unfold reachBytes at hx
      omega
set_option maxRecDepth 100000 in
theorem lost_arg {H : Type} {enc : TypeId × Value → H} {W : World} {r : Reach} {b0 : Nat} {v : Value} {d : DataW H} {ps : List MemPlace} (hv : Value.okWide Try.prog W r b0 82 v) (h : DataW.Trod enc Try.prog W 0 (fun _ => true) true 82 v d ps) (hw : ∀ x ∈ d.weights Try.prog 82, x ≤ reachBytes) :
    ∃ (K M : Int) (A : Option Addr) (c : Nat) (X : Mat) (A' : Option Addr) (c' : Nat) (B : List Bool), v = .agg #[.int .i64 K, .int .i64 M, .slice A (oM X).length c, .slice A' B.length c'] ∧ (Lit.int .i64 K).wf = true ∧ (Lit.int .i64 M).wf = true ∧
      Kd.C KR W A (oM X).length (oM X) ∧ (oM X).length ≤ c ∧ X.length * 24 ≤ 140737488351232 ∧ (∀ i, i < X.length → (row X i).length ≤ 140737488351232) ∧ Kd.C Kd.bool W A' B.length B ∧ B.length ≤ c' ∧ B.length ≤ 140737488351232 := by
  obtain ⟨v0, v1, v2, v3, y0, y1, y2, y3, n, rfl, rfl, rfl, h0, h1, h2, h3⟩ := open_agg4 Try.underlying82 (by kernel_rfl) (by kernel_rfl) hv h
  obtain ⟨K, e0, e0', wK⟩ := DataW.trod_int (k := .i64) Try.underlying3 h0
  obtain ⟨M, e1, e1', wM⟩ := DataW.trod_int (k := .i64) Try.underlying3 h1
  obtain rfl : v0 = .int .i64 K := by simpa using e0
  obtain rfl : v1 = .int .i64 M := by simpa using e1
  have hs2 : ∃ a len cap, v2 = .slice a len cap := by
    rcases open_slice Try.underlying51 h2 with ⟨hc, _⟩ | ⟨a, len, cap, _, _, _, _, hc, _⟩
    · exact ⟨none, 0, 0, by simpa using hc⟩
    · exact ⟨some a, len, cap, by simpa using hc⟩
  have hs3 : ∃ a len cap, v3 = .slice a len cap := by
    rcases open_slice Try.underlying78 h3 with ⟨hc, _⟩ | ⟨a, len, cap, _, _, _, _, hc, _⟩
    · exact ⟨none, 0, 0, by simpa using hc⟩
    · exact ⟨some a, len, cap, by simpa using hc⟩
  obtain ⟨A, l2, c2, rfl⟩ := hs2
  obtain ⟨A', l3, c3, rfl⟩ := hs3
  have hw2 : ∀ x ∈ y2.1.weights Try.prog 51, x ≤ reachBytes := fun x hx => hw x (by
    simp only [DataW.weights, Try.underlying82]
    exact DataW.weights_mem_each (j := 2) rfl rfl x hx)
  have hw3 : ∀ x ∈ y3.1.weights Try.prog 78, x ≤ reachBytes := fun x hx => hw x (by
    simp only [DataW.weights, Try.underlying82]
    exact DataW.weights_mem_each (j := 3) rfl rfl x hx)
  obtain ⟨X, hl, hc, hC, hs, hr⟩ := rows_arg (d := y2.1) (ps := y2.2) ⟨n, h2⟩ hw2
  obtain ⟨B, hl', hc', hC', hs'⟩ := bools_arg (d := y3.1) (ps := y3.2) ⟨n, h3⟩ hw3
  subst hl hl'
  rw [← oM_length X] at hc hC
  exact ⟨K, M, A, c2, X, A', c3, B, by rw [oM_length], wK, wM, hC, hc, hs, hr, hC', hc', hs'⟩
end Go.Proofs.Ytbogmlckbkogiaa.H
