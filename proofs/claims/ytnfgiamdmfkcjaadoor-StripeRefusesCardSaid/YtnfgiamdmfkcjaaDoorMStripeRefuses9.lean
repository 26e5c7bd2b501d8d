/- Words and walks that the claim StripeRefuses leans on (what it does not use is left out). -/
import Derived.Test.YtnfgiamdmfkcjaaDoorMStripeRefuses6
import Derived.Test.YtnfgiamdmfkcjaaDoorMStripeRefuses5
import Derived.Test.YtnfgiamdmfkcjaaDoorMStripeRefuses2
import Derived.Test.YtnfgiamdmfkcjaaDoorMStripeRefuses7
import Derived.OpenShut
import Derived.Test.YtnfgiamdmfkcjaaDoorMStripeRefuses8
import Derived.Test.YtnfgiamdmfkcjaaDoorMStripeRefuses1
import Derived.Deep.Matrix
import Derived.SizedLaws
import Derived.ChangeSlices
import Derived.Deep.Grids
import Derived.Lib.SmallJoins
namespace Go.Proofs.YtnfgiamdmfkcjaaDoor.Red
open Go.RowKit Go.Proofs.YtnfgiamdmfkcjaaDoorW.PrintWords Go.Proofs.YtnfgiamdmfkcjaaDoor.Leaf Go.Proofs.YtnfgiamdmfkcjaaDoor.Gf Go.Proofs.YtnfgiamdmfkcjaaDoor.H Go.Proofs.YtnfgiamdmfkcjaaDoor.Mx Go.Proofs.YtnfgiamdmfkcjaaDoor.P
set_option linter.unusedVariables false
set_option linter.unusedSimpArgs false
theorem code_Decode.f_oM (k m : Int) (hk : -9223372036854775808 ≤ k) (A : Mat) (hr : ∀ i, i < A.length → (row A i).length ≤ 140737488355327) (H : List Bool) : code_Decode.f k m (oM A) H = some (decR k m A H) := by
  unfold code_Decode.f
  rw [if_pos, unM_oM]
  refine ⟨bytes_oM A, hk, ?_⟩
  rw [List.all_eq_true]
  intro x hx
  obtain ⟨r, hr2, rfl⟩ := List.mem_map.1 hx
  obtain ⟨i, hi, rfl⟩ := List.mem_iff_getElem.1 hr2
  have e : row A i = A[i] := by unfold row; rw [List.getD_eq_getElem?_getD, List.getElem?_eq_getElem hi]; rfl
  rw [ofL_length, ← e]
  exact decide_eq_true (hr i hi)
end Go.Proofs.YtnfgiamdmfkcjaaDoor.Red
namespace Go.Proofs.YtnfgiamdmfkcjaaDoor.Red
open Go.RowKit Go.Proofs.YtnfgiamdmfkcjaaDoorW.PrintWords Go.Proofs.YtnfgiamdmfkcjaaDoor.Leaf Go.Proofs.YtnfgiamdmfkcjaaDoor.Gf Go.Proofs.YtnfgiamdmfkcjaaDoor.H Go.Proofs.YtnfgiamdmfkcjaaDoor.Mx Go.Proofs.YtnfgiamdmfkcjaaDoor.P
set_option linter.unusedVariables false
set_option linter.unusedSimpArgs false
theorem row_selM (A : Mat) (H : List Bool) (i : Nat) (hi : i < (selN H H.length).length) : row (selM A H) i = row A ((selN H H.length).getD i 0) := by
  unfold selM
  show ((selN H H.length).map _).getD i [] = _
  rw [List.getD_eq_getElem?_getD, List.getElem?_map, List.getD_eq_getElem?_getD, List.getElem?_eq_getElem hi]
  rfl
theorem row_take3 (A : Mat) (k i : Nat) (hi : i < k) : row (A.take k) i = row A i := by
  unfold row
  rw [List.getD_eq_getElem?_getD, List.getElem?_take_of_lt hi, List.getD_eq_getElem?_getD]
theorem getD_take (l : List Nat) (k i : Nat) (hi : i < k) : (l.take k).getD i 0 = l.getD i 0 := by
  rw [List.getD_eq_getElem?_getD, List.getElem?_take_of_lt hi, List.getD_eq_getElem?_getD]
/-- A product's row is told by the left matrix' row. -/
theorem row_mulM_eq {A A' C : Mat} {n n' m p : Nat} (hA : Reg A n m) (hA' : Reg A' n' m) (hC : Reg C m p) (hm : 0 < m) {i i' : Nat} (hi : i < n) (hi' : i' < n') (h : row A i = row A' i') : row (mulM A C) i = row (mulM A' C) i' := by
  refine ext0 (by rw [(mulM_reg hA hC hm).2 i hi, (mulM_reg hA' hC hm).2 i' hi']) fun j hj => ?_
  rw [(mulM_reg hA hC hm).2 i hi] at hj
  have h1 := el_mulM hA hC hm hi hj
  have h2 := el_mulM hA' hC hm hi' hj
  unfold el at h1 h2
  rw [h1, h2]
  unfold mm
  simp only [h]
theorem cauM_take {k m : Nat} : (cauM k m).take k = idM k := by
  have h1 : Reg ((cauM k m).take k) k k := ⟨by rw [List.length_take, (cauM_reg k m).1]; omega, fun i hi => by rw [row_take3 _ _ _ hi]; exact (cauM_reg k m).2 i (by omega)⟩
  refine mat_ext h1 (matF_reg k k I) fun i j hi hj => ?_
  rw [idM_eq, el_matF I hi hj]
  show at0 (row ((cauM k m).take k) i) j = _
  rw [row_take3 _ _ _ hi]
  show el (cauM k m) i j = _
  unfold cauM
  rw [el_matF (cau k m) (by omega) hj]
  unfold cau
  rw [if_pos hi]
theorem mulM_take {A C : Mat} {n m p k : Nat} (hA : Reg A n m) (hC : Reg C m p) (hm : 0 < m) (hk : k ≤ n) : (mulM A C).take k = mulM (A.take k) C := by
  have hA2 : Reg (A.take k) k m := reg_take hA hk
  refine mat_ext (reg_take (mulM_reg hA hC hm) hk) (mulM_reg hA2 hC hm) fun i j hi hj => ?_
  show at0 (row ((mulM A C).take k) i) j = at0 (row (mulM (A.take k) C) i) j
  rw [row_take3 _ _ _ hi, row_mulM_eq hA hA2 hC hm (by omega) hi (row_take3 _ _ _ hi).symm]
/-- What is decoded out of k shards of one length: a codeword, whose rows at those shards are they. -/
theorem decM_law {k m p : Nat} (hk : 1 ≤ k) (h : k + m ≤ 255) {H : List Bool} (hH : H.length = k + m) (hn : k ≤ (selN H H.length).length) {A : Mat} (hS : Reg (selM A H) (selN H H.length).length p) :
    ∃ Y : Mat, Reg Y k p ∧ decM k m A H = mulM (cauM k m) Y ∧ (decM k m A H).take k = Y ∧ ∀ i, i < k → row (decM k m A H) ((selN H H.length).getD i 0) = row A ((selN H H.length).getD i 0) := by
  obtain ⟨h1, hP, X, hX, hXr, e1, e2⟩ := pic_inverse hk h hH hn
  have hT : Reg ((selM A H).take k) k p := reg_take hS hn
  have hY := mulM_reg hXr hT hk
  refine ⟨mulM X ((selM A H).take k), hY, ?_, ?_, fun i hi => ?_⟩
  · unfold decM
    rw [hX, unM_oM]
  · unfold decM
    rw [hX, unM_oM, mulM_take (cauM_reg k m) hY hk (Nat.le_add_right k m), cauM_take, mulM_id hY hk]
  · have hlt : (selN H H.length).getD i 0 < k + m := by
      have := selN_lt (getD_mem (l := selN H H.length) (i := i) (by omega))
      omega
    unfold decM
    rw [hX, unM_oM]
    have hl : ((selN H H.length).take k).length = k := by rw [List.length_take]; omega
    have e3 : row (picM k m H) i = row (cauM k m) ((selN H H.length).getD i 0) := by
      unfold picM
      rw [row_rowsM _ _ _ (by omega), getD_take _ _ _ hi]
    rw [← row_mulM_eq hP (cauM_reg k m) hY hk hi hlt e3, ← mulM_assoc hP hXr hT hk hk, e1, mulM_id hT hk, row_take3 _ _ _ hi, row_selM _ _ _ (by omega)]
/-- How many of them one has. -/
theorem selN_snoc (H : List Bool) (i : Nat) : (selN H (i + 1)) = selN H i ++ (if H.getD i false = true then [i] else []) := by
  by_cases h : H.getD i false = true
  · rw [selN_yes h, if_pos h]
  · rw [selN_no (by simpa using h), if_neg h, List.append_nil]
/-- Number i one has: it stands where as many stand before it. -/
theorem selN_at (H : List Bool) (d : Nat) : ∀ i n, i + d = n → 0 < d → H.getD i false = true → (selN H n).getD (selN H i).length 0 = i ∧ (selN H i).length < (selN H n).length := by
  induction d with
  | zero => intro i n _ h0; omega
  | succ d ih =>
    intro i n hn _ hi
    by_cases hd : d = 0
    · subst hd
      obtain rfl : n = i + 1 := by omega
      rw [selN_yes hi]
      refine ⟨?_, by rw [List.length_append]; exact Nat.lt_succ_self _⟩
      rw [List.getD_eq_getElem?_getD, List.getElem?_append_right (Nat.le_refl _), Nat.sub_self]
      rfl
    · obtain ⟨n', rfl⟩ : ∃ n', n = n' + 1 := ⟨n - 1, by omega⟩
      obtain ⟨h1, h2⟩ := ih i n' (by omega) (by omega) hi
      rw [selN_snoc]
      refine ⟨?_, by rw [List.length_append]; omega⟩
      rw [List.getD_eq_getElem?_getD, List.getElem?_append_left h2, ← List.getD_eq_getElem?_getD]
      exact h1
end Go.Proofs.YtnfgiamdmfkcjaaDoor.Red
namespace Go.Proofs.YtnfgiamdmfkcjaaDoor.Red
open Go.RowKit Go.Proofs.YtnfgiamdmfkcjaaDoorW.PrintWords Go.Proofs.YtnfgiamdmfkcjaaDoor.Leaf Go.Proofs.YtnfgiamdmfkcjaaDoor.Gf Go.Proofs.YtnfgiamdmfkcjaaDoor.H Go.Proofs.YtnfgiamdmfkcjaaDoor.Mx Go.Proofs.YtnfgiamdmfkcjaaDoor.P
set_option linter.unusedVariables false
set_option linter.unusedSimpArgs false
def ixS (k i x : Nat) : Nat := (x / 16 * k + i) * 16 + x % 16
theorem ix_eq (k i x : Nat) (hk : k ≤ 254) (hi : i ≤ 254) (hx : x ≤ 70000) : (wrap64 ((wrap64 ((wrap64 ((wrap64 ((wrap64 (Int.tdiv (x : Int) 16)) * (k : Int))) + (i : Int))) * 16)) + (Int.tmod (x : Int) 16))) = ((ixS k i x : Nat) : Int) := by
  have h1 : x / 16 * k ≤ 70000 * 254 := Nat.mul_le_mul (by omega) hk
  rw [Int.tdiv_eq_ediv_of_nonneg (by omega), Int.tmod_eq_emod_of_nonneg (by omega), w64 ((x : Int) / 16) (by omega) (by omega)]
  have e1 : ((x : Int) / 16) * (k : Int) = ((x / 16 * k : Nat) : Int) := by rw [Int.natCast_mul, Int.natCast_ediv]; rfl
  rw [e1]
  unfold ixS
  generalize x / 16 * k = q at *
  rw [w64 (q : Int) (by omega) (by omega), w64 ((q : Int) + (i : Int)) (by omega) (by omega), w64 (((q : Int) + (i : Int)) * 16) (by omega) (by omega), w64 _ (by omega) (by omega)]
  omega
def rowS (k : Nat) (L : List B) (i : Nat) (n : Nat) : List B := (List.range n).map fun x => at0 L (ixS k i x)
theorem rowS_eq (k n : Nat) (L : List B) (i : Nat) (hn : n % 16 = 0) : rowS k L i n = spR k n L i (n / 16) := by
  unfold rowS spR
  refine List.map_congr_left fun x hx => ?_
  rw [if_pos (by have := List.mem_range.1 hx; omega)]
  rfl
theorem split_l1 (k n : Nat) (L : List B) (hL : L.length ≤ 4096) (hk : k ≤ 254) (hn : n ≤ 70000) (hn16 : n % 16 = 0) (b : Int) (r : List (List Int) × Int) (i : Nat) (hi : i < k) (X : List (List Int)) (hX : X.length ≤ 255)
    (hnext : Ev (fun f => mooringref20_Split.l0 f (k : Int) b (ofL L) (n : Int) (X ++ [ofL (spR k n L i (n / 16))]) ((i + 1 : Nat) : Int)) r) (d : Nat) : ∀ x : Nat, x + d = n →
    Ev (fun f => mooringref20_Split.l1 f (k : Int) b (ofL L) (n : Int) X (i : Int) (ofL (rowS k L i x)) (x : Int)) r := by
  induction d with
  | zero =>
    intro x hx
    obtain rfl : x = n := by omega
    refine Ev.step (f := fun f => mooringref20_Split.l0 f (k : Int) b (ofL L) (x : Int) (X ++ [ofL (spR k x L i (x / 16))]) ((i + 1 : Nat) : Int)) (fun f => ?_) hnext
    simp only [mooringref20_Split.l1]
    rw [if_neg (by omega), if_pos (by omega), rowS_eq k x L i hn16, w64 _ (by omega) (by omega)]
    rfl
  | succ d ih =>
    intro x hx
    refine Ev.step (f := fun f => mooringref20_Split.l1 f (k : Int) b (ofL L) (n : Int) X (i : Int) (ofL (rowS k L i (x + 1))) ((x + 1 : Nat) : Int)) (fun f => ?_) (ih (x + 1) (by omega))
    have hl : (rowS k L i x).length = x := by simp [rowS]
    have e : ofL (rowS k L i x) ++ [ofB (at0 L (ixS k i x))] = ofL (rowS k L i (x + 1)) := by
      unfold rowS
      rw [List.range_succ, List.map_append]
      unfold ofL
      rw [List.map_append]
      rfl
    simp only [mooringref20_Split.l1, ix_eq k i x hk (by omega) (by omega), ofL_length, hl, rd_ofL]
    rw [if_pos (by omega), w64 ((x : Int) + 1) (by omega) (by omega)]
    by_cases h : ixS k i x < L.length
    · rw [if_pos (by omega), if_pos (by omega), if_pos (by omega), e]
      rfl
    · rw [if_neg (by omega), if_pos (by omega)]
      have : (0 : Int) = ofB (at0 L (ixS k i x)) := by rw [at0_out _ _ (by omega)]; rfl
      rw [this, e]
      rfl
theorem split_l0 (k n : Nat) (L : List B) (hL : L.length ≤ 4096) (hk : k ≤ 254) (hn : n ≤ 70000) (hn16 : n % 16 = 0) (b : Int) (d : Nat) : ∀ i : Nat, i + d = k →
    Ev (fun f => mooringref20_Split.l0 f (k : Int) b (ofL L) (n : Int) (rowsTo k n L i) (i : Int)) (encR (k : Int) b (spM k n L)) := by
  induction d with
  | zero =>
    intro i hi
    obtain rfl : i = k := by omega
    refine Ev.step (f := fun f => (mooringref03_Encode.f f (i : Int) b (oM (spM i n L))).bind fun bt107 => some (bt107.1, bt107.2)) (fun f => ?_) ?_
    · simp only [mooringref20_Split.l0]
      rw [if_neg (by omega), rowsTo_all]
    · refine Ev.bind (evRefEncode (i : Int) b (by omega) (spM i n L) (by rw [(spM_reg i n L).1]; omega) (fun j hj => by rw [(spM_reg i n L).1] at hj; rw [(spM_reg i n L).2 j hj]; omega)) ?_
      exact Ev.now _
  | succ d ih =>
    intro i hi
    refine Ev.step (f := fun f => mooringref20_Split.l1 f (k : Int) b (ofL L) (n : Int) (rowsTo k n L i) (i : Int) (ofL (rowS k L i 0)) ((0 : Nat) : Int)) (fun f => ?_) (split_l1 k n L hL hk hn hn16 b _ i (by omega) _ (by rw [rowsTo_length]; omega) (by rw [rowsTo_next]; exact ih (i + 1) (by omega)) n 0 (by omega))
    simp only [mooringref20_Split.l0]
    rw [if_pos (by omega)]
    rfl
theorem evRefSplit (a b : Int) (ha : -9223372036854775808 ≤ a) (L : List B) (hL : L.length ≤ 9223372036854775807) : Ev (fun f => mooringref20_Split.f f a b (ofL L)) (splR a b L) := by
  unfold mooringref20_Split.f splR
  simp only [code_eq a b ha, Option.bind_some]
  cases h1 : codeB a b with
  | false =>
    simp only [Bool.false_eq_true, if_false]
    exact Ev.now _
  | true =>
    obtain ⟨k, m, rfl, rfl, hk, hm, hkm⟩ := code_form h1
    simp only [if_true, ofL_length, Int.toNat_natCast]
    refine Ev.bind (evRefLength (k : Int) (L.length : Int)) ?_
    unfold lenR
    rw [if_pos (by omega)]
    by_cases h2 : L.length > 4096
    · rw [if_pos (by omega), if_pos h2]
      simp only [show ((3 : Int) = 0) = False from eq_false (by decide), if_false]
      exact Ev.now _
    · rw [if_neg (by omega), if_neg h2]
      simp only [if_true, Int.toNat_natCast]
      have hle := nS_le k L.length (by omega)
      exact split_l0 k (lenS k L.length) L (by omega) (by omega) (by unfold lenS; omega) (by unfold lenS; omega) (m : Int) k 0 (by omega)
/-- What Split tells, where it tells shards. -/
theorem splR_yes {k m : Nat} (hk : 1 ≤ k) (hm : 1 ≤ m) (hkm : k + m ≤ 255) (L : List B) (hL : L.length ≤ 4096) : splR (k : Int) (m : Int) L = (oM (mulM (cauM k m) (spM k (lenS k L.length) L)), 0) ∧ Reg (mulM (cauM k m) (spM k (lenS k L.length) L)) (k + m) (lenS k L.length) := by
  have hc : codeB (k : Int) (m : Int) = true := by unfold codeB; simp; omega
  have hD := spM_reg k (lenS k L.length) L
  refine ⟨?_, mulM_reg (cauM_reg k m) hD (by omega)⟩
  unfold splR encR
  rw [if_pos hc, if_neg (by omega), Int.toNat_natCast, Int.toNat_natCast, if_pos ⟨hc, (evenB_iff _ k).2 (by rw [hD.2 0 (by omega)]; exact hD)⟩]
theorem evAwake20 : Ev (fun k => mooringlaw20_awake.f k) true := by
  unfold mooringlaw20_awake.f
  simp only [show (20 ≤ 281474976710656) = True from eq_true (by decide), if_true]
  have e : (List.replicate 20 (0 : Int)) = ofL (List.replicate 20 0#8) := ofL_replicate 20
  rw [e]
  obtain ⟨h1, h2⟩ := splR_yes (k := 2) (m := 1) (by omega) (by omega) (by omega) (List.replicate 20 0#8) (by decide)
  have hf : stripe_Split.f 2 1 (ofL (List.replicate 20 0#8)) = some (splR ((2 : Nat) : Int) ((1 : Nat) : Int) (List.replicate 20 0#8)) := stripe_Split.f_ofL 2 1 (by decide) _
  rw [hf, h1]
  simp only [Option.bind_some]
  refine Ev.bind (evLength 2 33) ?_
  have e2 : lenR 2 33 = (32, 0) := by decide +kernel
  have hr0 := h2.2 0 (by omega)
  rw [show lenS 2 (List.replicate 20 0#8).length = 16 by decide +kernel] at h2 hr0 ⊢
  rw [e2]
  simp only [oM_length, h2.1, rd_oM0, ofL_length, hr0]
  exact Ev.now _
theorem light20 (a b : Int) (ha : -9223372036854775808 ≤ a) : ∃ x, mooringlaw20_light.f a b = some x := by
  unfold mooringlaw20_light.f
  rw [code_eq a b ha, Option.bind_some]
  cases codeB a b with
  | false => exact ⟨true, rfl⟩
  | true => exact ⟨_, rfl⟩
end Go.Proofs.YtnfgiamdmfkcjaaDoor.Red
namespace Go.Proofs.YtnfgiamdmfkcjaaDoor.Pure
open Go.RowKit Go.Proofs.YtnfgiamdmfkcjaaDoorW.PrintWords Go.Proofs.YtnfgiamdmfkcjaaDoor.Leaf Go.Proofs.YtnfgiamdmfkcjaaDoor.P Go.Proofs.YtnfgiamdmfkcjaaDoor.Gf Go.Proofs.YtnfgiamdmfkcjaaDoor.Red Go.Proofs.YtnfgiamdmfkcjaaDoor.H Go.Proofs.YtnfgiamdmfkcjaaDoor.Mx
set_option linter.unusedSimpArgs false
set_option linter.unusedVariables false
theorem rdB (H : List Bool) (i : Nat) : rdOf false H (i : Int) = H.getD i false := rfl
/-- The shards that one has are of one length. -/
def EvA (A : Mat) (H : List Bool) : Prop := ∀ u v, u ∈ selN H H.length → v ∈ selN H H.length → (row A u).length = (row A v).length
theorem evD_iff {A : Mat} {H : List Bool} (h0 : 0 < (selM A H).length) : evD A H = true ↔ EvA A H := by
  have hl := selM_length A H
  have e : evD A H = evenB (selM A H) ((selM A H).length : Int) := by
    unfold evD
    rw [code_even_eq _ _ (by omega)]
    rfl
  rw [e, evenB_iff]
  constructor
  · intro h u v hu hv
    obtain ⟨i, hi, rfl⟩ := List.mem_iff_getElem.1 hu
    obtain ⟨j, hj, rfl⟩ := List.mem_iff_getElem.1 hv
    have h1 := h.2 i (by omega)
    have h2 := h.2 j (by omega)
    rw [row_selM _ _ _ hi, List.getD_eq_getElem?_getD, List.getElem?_eq_getElem hi] at h1
    rw [row_selM _ _ _ hj, List.getD_eq_getElem?_getD, List.getElem?_eq_getElem hj] at h2
    exact h1.trans h2.symm
  · intro h
    refine ⟨rfl, fun i hi => ?_⟩
    rw [row_selM _ _ _ (by omega), row_selM _ _ _ (by omega)]
    exact h _ _ (getD_mem (by omega)) (getD_mem (by omega))
def Zs (T : List B) : Prop := ∀ x ∈ T, x = 0#8
theorem ofL_take (T : List B) (n : Nat) : (ofL T).take n = ofL (T.take n) := by unfold ofL; rw [List.map_take]
theorem ofL_drop (T : List B) (n : Nat) : (ofL T).drop n = ofL (T.drop n) := by unfold ofL; rw [List.map_drop]
theorem ofL_append (T U : List B) : ofL T ++ ofL U = ofL (T ++ U) := by unfold ofL; rw [List.map_append]
theorem zs_take_last (T : List B) (n : Nat) (hn : T.length = n + 1) (h : at0 T n = 0#8) : Zs T ↔ Zs (T.take n) := by
  constructor
  · exact fun hz x hx => hz x (List.mem_of_mem_take hx)
  · intro hz x hx
    obtain ⟨i, hi, rfl⟩ := List.mem_iff_getElem.1 hx
    by_cases e : i = n
    · subst e
      unfold at0 at h
      rw [List.getD_eq_getElem?_getD, List.getElem?_eq_getElem hi] at h
      exact h
    · exact hz _ (List.mem_iff_getElem.2 ⟨i, by rw [List.length_take]; omega, by rw [List.getElem_take]⟩)
theorem trimR_l0 (n : Nat) : ∀ T : List B, T.length = n → n ≤ 140737488355327 → ∃ U : List B, Ev (fun k => bytes_trimRightByte.l0 k (ofL T) 0) (ofL U) ∧ U.length ≤ n ∧ (Zs T ↔ Zs U) := by
  induction n with
  | zero =>
    intro T hT _
    refine ⟨T, Ev.step (f := fun _ => some (ofL T)) (fun k => ?_) (Ev.now _), by omega, Iff.rfl⟩
    simp only [bytes_trimRightByte.l0]
    rw [if_neg (by rw [ofL_length]; omega)]
  | succ n ih =>
    intro T hT hn
    have hw : wrap64 ((T.length : Int) - 1) = (n : Int) := by rw [w64 _ (by omega) (by omega)]; omega
    by_cases h : at0 T n = 0#8
    · obtain ⟨U, hU, hl, hz⟩ := ih (T.take n) (by rw [List.length_take]; omega) (by omega)
      refine ⟨U, Ev.step (fun k => ?_) hU, by omega, (zs_take_last T n hT h).trans hz⟩
      simp only [bytes_trimRightByte.l0, ofL_length, hw]
      rw [if_pos (by omega), if_pos (by omega), if_pos (by omega), rd_ofL, h, if_pos ofB_zero, if_pos (by omega), Int.toNat_natCast, ofL_take]
    · refine ⟨T, Ev.step (f := fun _ => some (ofL T)) (fun k => ?_) (Ev.now _), by omega, Iff.rfl⟩
      simp only [bytes_trimRightByte.l0, ofL_length, hw]
      rw [if_pos (by omega), if_pos (by omega), if_pos (by omega), rd_ofL, if_neg (fun e => h ((ofB_eq_zero _).1 e))]
theorem trimL_l0 (n : Nat) : ∀ T : List B, T.length = n → ∃ U : List B, Ev (fun k => bytes_trimLeftByte.l0 k (ofL T) 0) (ofL U) ∧ (U = [] ↔ Zs T) := by
  induction n with
  | zero =>
    intro T hT
    obtain rfl : T = [] := List.length_eq_zero_iff.1 hT
    refine ⟨[], Ev.step (f := fun _ => some []) (fun k => ?_) (Ev.now _), ⟨fun _ x hx => absurd hx List.not_mem_nil, fun _ => rfl⟩⟩
    simp only [bytes_trimLeftByte.l0]
    rfl
  | succ n ih =>
    intro T hT
    match T, hT with
    | c :: T', hT =>
      have hT' : T'.length = n := by simpa using hT
      by_cases h : c = 0#8
      · obtain ⟨U, hU, hz⟩ := ih T' hT'
        refine ⟨U, Ev.step (fun k => ?_) hU, hz.trans ⟨fun h' x hx => ?_, fun h' x hx => h' x (List.mem_cons_of_mem _ hx)⟩⟩
        · simp only [bytes_trimLeftByte.l0, ofL_length]
          rw [if_pos (by omega), if_pos (by omega), if_pos (by subst h; rfl), if_pos (by omega), ofL_drop]
          rfl
        · rcases List.mem_cons.1 hx with rfl | hx
          · exact h
          · exact h' x hx
      · refine ⟨c :: T', Ev.step (f := fun _ => some (ofL (c :: T'))) (fun k => ?_) (Ev.now _), ⟨fun e => (List.cons_ne_nil _ _ e).elim, fun hz => absurd (hz c List.mem_cons_self) h⟩⟩
        simp only [bytes_trimLeftByte.l0, ofL_length]
        rw [if_pos (by omega), if_pos (by omega), if_neg (show ¬ rd (ofL (c :: T')) 0 = 0 from fun e => h ((ofB_eq_zero _).1 e)), if_neg (by omega)]
theorem evTrim (T : List B) (hT : T.length ≤ 140737488355327) : ∃ V : List B, Ev (fun k => bytes_Trim.f k (ofL T) (⟨#[0]⟩ : ByteArray)) (ofL V) ∧ (V = [] ↔ Zs T) := by
  by_cases h0 : T.length = 0
  · obtain rfl : T = [] := List.length_eq_zero_iff.1 h0
    exact ⟨[], Ev.congr (f := fun _ => some []) (fun k => rfl) (Ev.now _), ⟨fun _ x hx => absurd hx List.not_mem_nil, fun _ => rfl⟩⟩
  · obtain ⟨U, hU, hl, hz⟩ := trimR_l0 T.length T rfl hT
    obtain ⟨V, hV, hz2⟩ := trimL_l0 U.length U rfl
    refine ⟨V, Ev.congr (f := fun k => (bytes_trimRightByte.l0 k (ofL T) 0).bind fun t => bytes_trimLeftByte.l0 k t 0) (fun k => ?_) (Ev.bind hU hV), hz2.trans hz.symm⟩
    unfold bytes_Trim.f bytes_trimRightByte.f bytes_trimLeftByte.f
    rw [if_pos rfl, if_neg (by rw [ofL_length]; exact h0)]
def chunk (D : Mat) (s i : Nat) : List B := ((row D i).take ((s + 1) * 16)).drop (s * 16)
def blkJ (D : Mat) (s k : Nat) : List B := (List.range k).flatMap (chunk D s)
def joinB (D : Mat) (k S : Nat) : List B := (List.range S).flatMap fun s => blkJ D s k
theorem chunk_length {D : Mat} {k p s i : Nat} (hD : ∀ j, j < k → (row D j).length = p) (hs : (s + 1) * 16 ≤ p) (hi : i < k) : (chunk D s i).length = 16 := by
  unfold chunk
  rw [List.length_drop, List.length_take, hD i hi]
  omega
theorem blkJ_succ (D : Mat) (s i : Nat) : blkJ D s (i + 1) = blkJ D s i ++ chunk D s i := by
  unfold blkJ
  rw [List.range_succ, List.flatMap_append]
  simp
theorem joinB_succ (D : Mat) (k S : Nat) : joinB D k (S + 1) = joinB D k S ++ blkJ D S k := by
  unfold joinB
  rw [List.range_succ, List.flatMap_append]
  simp
theorem blkJ_length {D : Mat} {k p s : Nat} (hD : ∀ j, j < k → (row D j).length = p) (hs : (s + 1) * 16 ≤ p) : ∀ i, i ≤ k → (blkJ D s i).length = i * 16 := by
  intro i
  induction i with
  | zero => intro _; rfl
  | succ i ih =>
    intro hi
    rw [blkJ_succ, List.length_append, ih (by omega), chunk_length hD hs (by omega)]
    omega
theorem joinB_length {D : Mat} {k p : Nat} (hD : ∀ j, j < k → (row D j).length = p) : ∀ S, S * 16 ≤ p → (joinB D k S).length = S * (k * 16) := by
  intro S
  induction S with
  | zero => intro _; simp [joinB]
  | succ S ih =>
    intro hS
    rw [joinB_succ, List.length_append, ih (by omega), blkJ_length hD hS k (Nat.le_refl _), Nat.succ_mul]
theorem at0_append (L M : List B) (y : Nat) : at0 (L ++ M) y = if y < L.length then at0 L y else at0 M (y - L.length) := by
  unfold at0
  rw [List.getD_eq_getElem?_getD, List.getElem?_append, List.getD_eq_getElem?_getD, List.getD_eq_getElem?_getD]
  split <;> rfl
theorem at0_chunk {D : Mat} {k p s i : Nat} (hD : ∀ j, j < k → (row D j).length = p) (hs : (s + 1) * 16 ≤ p) (hi : i < k) (z : Nat) (hz : z < 16) : at0 (chunk D s i) z = at0 (row D i) (s * 16 + z) := by
  unfold chunk at0
  rw [List.getD_eq_getElem?_getD, List.getElem?_drop, List.getElem?_take_of_lt (by omega), List.getD_eq_getElem?_getD]
theorem at0_blkJ {D : Mat} {k p s : Nat} (hD : ∀ j, j < k → (row D j).length = p) (hs : (s + 1) * 16 ≤ p) : ∀ i, i ≤ k → ∀ y, y < i * 16 → at0 (blkJ D s i) y = at0 (row D (y / 16)) (s * 16 + y % 16) := by
  intro i
  induction i with
  | zero => intro _ y hy; omega
  | succ i ih =>
    intro hi y hy
    rw [blkJ_succ, at0_append, blkJ_length hD hs i (by omega)]
    by_cases h : y < i * 16
    · rw [if_pos h]
      exact ih (by omega) y h
    · rw [if_neg h, at0_chunk hD hs (by omega) _ (by omega), show y / 16 = i by omega, show y - i * 16 = y % 16 by omega]
theorem at0_joinB {D : Mat} {k p : Nat} (hk : 0 < k) (hD : ∀ j, j < k → (row D j).length = p) : ∀ S, S * 16 ≤ p → ∀ y, y < S * (k * 16) → at0 (joinB D k S) y = at0 (row D (y / 16 % k)) (y / 16 / k * 16 + y % 16) := by
  intro S
  induction S with
  | zero => intro _ y hy; omega
  | succ S ih =>
    intro hS y hy
    rw [joinB_succ, at0_append, joinB_length hD S (by omega)]
    by_cases h : y < S * (k * 16)
    · rw [if_pos h]
      exact ih (by omega) y h
    · rw [if_neg h]
      have e1 : S * (k * 16) = 16 * (k * S) := by rw [Nat.mul_comm k 16, ← Nat.mul_assoc, Nat.mul_comm S 16, Nat.mul_assoc, Nat.mul_comm S k]
      have hlt : y - S * (k * 16) < k * 16 := by rw [Nat.succ_mul] at hy; omega
      rw [at0_blkJ hD hS k (Nat.le_refl _) _ hlt]
      have e2 : (y - S * (k * 16)) / 16 = y / 16 - k * S := by omega
      have e3 : (y - S * (k * 16)) % 16 = y % 16 := by omega
      have e4 : k * S ≤ y / 16 := by omega
      have e5 : y / 16 - k * S < k := by omega
      have e6 : y / 16 % k = y / 16 - k * S := by
        have : y / 16 = (y / 16 - k * S) + k * S := by omega
        rw [this, Nat.add_mul_mod_self_left, Nat.mod_eq_of_lt e5]
        omega
      have e7 : y / 16 / k = S := by
        have : y / 16 = (y / 16 - k * S) + k * S := by omega
        rw [this, Nat.add_mul_div_left _ _ hk, Nat.div_eq_of_lt e5, Nat.zero_add]
      rw [e2, e3, e6, e7]
end Go.Proofs.YtnfgiamdmfkcjaaDoor.Pure
namespace Go.Proofs.YtnfgiamdmfkcjaaDoor.Pure
open Go.RowKit Go.Proofs.YtnfgiamdmfkcjaaDoorW.PrintWords Go.Proofs.YtnfgiamdmfkcjaaDoor.Leaf Go.Proofs.YtnfgiamdmfkcjaaDoor.P Go.Proofs.YtnfgiamdmfkcjaaDoor.Gf Go.Proofs.YtnfgiamdmfkcjaaDoor.Red Go.Proofs.YtnfgiamdmfkcjaaDoor.H Go.Proofs.YtnfgiamdmfkcjaaDoor.Mx
set_option linter.unusedSimpArgs false
set_option linter.unusedVariables false
instance (T : List B) : Decidable (Zs T) := inferInstanceAs (Decidable (∀ x ∈ T, x = 0#8))
/-- What Join makes of the units put together. -/
def finJ (n : Nat) (J : List B) : List Int × Int := if Zs (J.drop n) then (ofL (J.take n), 0) else ([], 8)
theorem join_l2 {D : Mat} {k p : Nat} (hk : k ≤ 255) (hl : k ≤ D.length) (hD : ∀ j, j < k → (row D j).length = p) (hp : p ≤ 70000) (n : Int) (r : List Int × Int) (s S : Nat) (hs : (s + 1) * 16 ≤ p) (J : List B) (hJ : J.length ≤ 20000000)
    (hnext : Ev (fun f => stripe_Join.l1 f (k : Int) n (oM D) (ofL (J ++ blkJ D s k)) (S : Int) ((s + 1 : Nat) : Int)) r) (d : Nat) : ∀ i : Nat, i + d = k →
    Ev (fun f => stripe_Join.l2 f (k : Int) n (oM D) (ofL (J ++ blkJ D s i)) (s : Int) (S : Int) (s : Int) (k : Int) (i : Int)) r := by
  have w1 : wrap64 ((s : Int) * 16) = ((s * 16 : Nat) : Int) := by rw [w64 _ (by omega) (by omega)]; omega
  have w2 : wrap64 ((s : Int) + 1) = ((s + 1 : Nat) : Int) := by rw [w64 _ (by omega) (by omega)]; omega
  have w3 : wrap64 (((s + 1 : Nat) : Int) * 16) = (((s + 1) * 16 : Nat) : Int) := by rw [w64 _ (by omega) (by omega)]; omega
  induction d with
  | zero =>
    intro i hi
    obtain rfl : i = k := by omega
    refine Ev.step (fun f => ?_) hnext
    simp only [stripe_Join.l2, w2]
    rw [if_neg (by omega)]
  | succ d ih =>
    intro i hi
    have hb := blkJ_length hD hs i (by omega)
    have hc := chunk_length hD hs (show i < k by omega)
    have hn := ih (i + 1) (by omega)
    refine Ev.step (fun f => ?_) hn
    simp only [stripe_Join.l2, w1, w2, w3, rd_oM, ofL_length, oM_length]
    rw [if_pos (by omega), if_pos (by omega), if_pos (by omega), if_pos (by omega), if_pos (by omega), if_pos (by rw [hD i (by omega)]; omega), Option.bind_some, Int.toNat_natCast, Int.toNat_natCast, ofL_take, ofL_drop]
    rw [show ((row D i).take ((s + 1) * 16)).drop (s * 16) = chunk D s i from rfl, if_pos (by rw [ofL_length, hc, List.length_append, hb]; omega), ofL_append, List.append_assoc, ← blkJ_succ, w64 ((i : Int) + 1) (by omega) (by omega)]
    rfl
theorem join_l1 {D : Mat} {k p : Nat} (hk : k ≤ 255) (hl : k ≤ D.length) (hD : ∀ j, j < k → (row D j).length = p) (hp : p ≤ 70000) (n : Nat) (S : Nat) (hS : S * 16 = p) (hn : n ≤ S * (k * 16)) (d : Nat) : ∀ s : Nat, s + d = S →
    Ev (fun f => stripe_Join.l1 f (k : Int) (n : Int) (oM D) (ofL (joinB D k s)) (S : Int) (s : Int)) (finJ n (joinB D k S)) := by
  induction d with
  | zero =>
    intro s hs
    obtain rfl : s = S := by omega
    have hJ := joinB_length hD s (by omega)
    obtain ⟨V, hV, hz⟩ := evTrim ((joinB D k s).drop n) (by
      rw [List.length_drop, hJ]
      have : s * (k * 16) ≤ 70000 * 255 := by
        calc s * (k * 16) = s * 16 * k := by rw [Nat.mul_comm k 16, Nat.mul_assoc]
          _ ≤ 70000 * 255 := Nat.mul_le_mul (by omega) hk
      omega)
    refine Ev.step (f := fun f => (bytes_Trim.f f (ofL ((joinB D k s).drop n)) (⟨#[0]⟩ : ByteArray)).bind fun t115 => (if (t115.length : Int) > 0 then (some (([] : List Int), 8)) else (some (ofL ((joinB D k s).take n), 0)))) (fun f => ?_) ?_
    · simp only [stripe_Join.l1]
      rw [if_neg (by omega), if_pos (by omega), if_pos (by rw [ofL_length, hJ]; omega), Int.toNat_natCast, ofL_drop, ofL_take]
    · refine Ev.bind hV ?_
      unfold finJ
      by_cases h : Zs ((joinB D k s).drop n)
      · rw [if_pos h, hz.2 h]
        exact Ev.now _
      · rw [if_neg h]
        have h0 : 0 < V.length := Nat.pos_of_ne_zero fun e => h (hz.1 (List.length_eq_zero_iff.1 e))
        simp only [show ((ofL V).length : Int) > 0 from by rw [ofL_length]; omega, if_true]
        exact Ev.now _
  | succ d ih =>
    intro s hs
    have hJ := joinB_length hD s (by omega)
    have hb : s * (k * 16) ≤ 20000000 := by
      have : s * (k * 16) ≤ 70000 * 255 := by
        calc s * (k * 16) = s * 16 * k := by rw [Nat.mul_comm k 16, Nat.mul_assoc]
          _ ≤ 70000 * 255 := Nat.mul_le_mul (by omega) hk
      omega
    have hnx := ih (s + 1) (by omega)
    rw [joinB_succ] at hnx
    have h2 := join_l2 hk hl hD hp (n : Int) (finJ n (joinB D k S)) s S (by omega) (joinB D k s) (by rw [hJ]; exact hb) hnx k 0 (by omega)
    refine Ev.step (fun f => ?_) h2
    simp only [stripe_Join.l1]
    rw [if_pos (by omega), show blkJ D s 0 = [] from rfl, List.append_nil]
    rfl
/-- The shards that one has are p bytes long. -/
def okLen (S : Mat) (H : List Bool) (p : Nat) : Prop := ∀ i, i < H.length → H.getD i false = true → (row S i).length = p
theorem join_l0 (a b n : Int) (S : Mat) (H : List Bool) (hSH : S.length = H.length) (hH : H.length ≤ 140737488351232) (p : Nat) (r : List Int × Int)
    (hgood : okLen S H p → Ev (fun f => (code_Decode.f a b (oM S) H).bind fun bt106 => (if bt106.2 = 0 then (stripe_Join.l1 f a n bt106.1 ([] : List Int) (wrap64 (Int.tdiv (p : Int) 16)) 0) else (some (([] : List Int), bt106.2)))) r)
    (hbad : ¬ okLen S H p → r = ([], 8)) (d : Nat) : ∀ i : Nat, i + d = H.length → (∀ j, j < i → H.getD j false = true → (row S j).length = p) →
    Ev (fun f => stripe_Join.l0 f a b n (oM S) H (p : Int) H (H.length : Int) (i : Int)) r := by
  induction d with
  | zero =>
    intro i hi hok
    obtain rfl : i = H.length := by omega
    refine Ev.step (fun f => ?_) (hgood hok)
    simp only [stripe_Join.l0]
    rw [if_neg (by omega)]
  | succ d ih =>
    intro i hi hok
    have wi : wrap64 ((i : Int) + 1) = ((i + 1 : Nat) : Int) := w64 _ (by omega) (by omega)
    by_cases h : H.getD i false = true
    · by_cases hl : (row S i).length = p
      · refine Ev.step (fun f => ?_) (ih (i + 1) (by omega) (fun j hj hb => by
          by_cases e : j = i
          · subst e; exact hl
          · exact hok j (by omega) hb))
        simp only [stripe_Join.l0]
        rw [if_pos (by omega), if_pos (by omega), if_pos (by omega), rdB, if_pos h, if_pos (by rw [oM_length]; omega), rd_oM, ofL_length, if_pos (by omega), wi]
      · rw [hbad (fun ho => hl (ho i (by omega) h))]
        refine Ev.step (f := fun _ => some ([], 8)) (fun f => ?_) (Ev.now _)
        simp only [stripe_Join.l0]
        rw [if_pos (by omega), if_pos (by omega), if_pos (by omega), rdB, if_pos h, if_pos (by rw [oM_length]; omega), rd_oM, ofL_length, if_neg (by omega)]
    · refine Ev.step (fun f => ?_) (ih (i + 1) (by omega) (fun j hj hb => by
        by_cases e : j = i
        · subst e; exact absurd hb h
        · exact hok j (by omega) hb))
      simp only [stripe_Join.l0]
      rw [if_pos (by omega), if_pos (by omega), if_pos (by omega), rdB, if_neg h, wi]
theorem okLen_EvA {S : Mat} {H : List Bool} {p : Nat} (h : okLen S H p) : EvA S H := fun u v hu hv => by
  rw [h u (selN_lt hu) (List.mem_filter.1 hu).2, h v (selN_lt hv) (List.mem_filter.1 hv).2]
theorem decR_okLen {k m p : Nat} (hc : codeB (k : Int) (m : Int) = true) {S : Mat} {H : List Bool} (hS : S.length = k + m) (hH : H.length = k + m) (h : okLen S H p) :
    decR (k : Int) (m : Int) S H = if ((selN H H.length).length : Int) < (k : Int) then ([], 4) else (oM (decM k m S H), 0) := by
  unfold decR
  rw [if_pos ⟨hc, by omega, by omega⟩, if_neg, Int.toNat_natCast, Int.toNat_natCast, selM_length]
  rintro ⟨h2, h3⟩
  rw [(evD_iff h2).2 (okLen_EvA h)] at h3
  cases h3
open Classical in
/-- What Join answers. -/
noncomputable def joinR (a b n : Int) (S : Mat) (H : List Bool) : List Int × Int :=
  if codeB a b = true ∧ 0 ≤ n ∧ (S.length : Int) = a + b ∧ (H.length : Int) = a + b then
    (if n > 4096 then ([], 3) else if okLen S H (lenS a.toNat n.toNat) then
      (if ((selN H H.length).length : Int) < a then ([], 4) else finJ n.toNat (joinB (decM a.toNat b.toNat S H) a.toNat (nS a.toNat n.toNat))) else ([], 8))
  else ([], 1)
theorem evJoin (a b n : Int) (ha : -9223372036854775808 ≤ a) (S : Mat) (hr : ∀ i, i < S.length → (row S i).length ≤ 140737488355327) (H : List Bool) : Ev (fun f => stripe_Join.f f a b n (oM S) H) (joinR a b n S H) := by
  have no : Ev (fun f => stripe_Join.j0 f a b n (oM S) H true) (([] : List Int), (1 : Int)) := Ev.step (f := fun _ => some ([], 1)) (fun f => by simp only [stripe_Join.j0, if_true]) (Ev.now _)
  unfold stripe_Join.f joinR
  simp only [is_eq, Option.bind_some]
  rcases codeB_form a b with ⟨h1, k, m, rfl, rfl, hk, hm, h, e⟩ | ⟨h1, e⟩
  · have hw : wrap64 ((k : Int) + (m : Int)) = (k : Int) + (m : Int) := w64 _ (by omega) (by omega)
    simp only [h1, if_true, hw, oM_length, true_and]
    by_cases h2 : n < 0
    · rw [if_neg (fun hh => absurd hh.1 (by omega))]
      simp only [if_pos h2]
      exact no
    · simp only [if_neg h2]
      by_cases h3 : (S.length : Int) = (k : Int) + (m : Int)
      · simp only [if_pos h3]
        by_cases h4 : (H.length : Int) = (k : Int) + (m : Int)
        · rw [show ((H.length : Int) != (k : Int) + (m : Int)) = false from bne_eq_false_iff_eq.mpr h4, if_pos ⟨by omega, h3, h4⟩]
          obtain ⟨n, rfl⟩ := Int.eq_ofNat_of_zero_le (show 0 ≤ n by omega)
          simp only [Int.toNat_natCast]
          refine Ev.step (f := fun f => (stripe_Length.f f (k : Int) (n : Int)).bind fun bt102 => (if bt102.2 = 0 then (stripe_Join.l0 f (k : Int) (m : Int) (n : Int) (oM S) H bt102.1 H (H.length : Int) 0) else (some (([] : List Int), bt102.2)))) (fun f => by simp only [stripe_Join.j0, Bool.false_eq_true, if_false]) ?_
          refine Ev.bind (evLength (k : Int) (n : Int)) ?_
          unfold lenR
          rw [if_pos (by omega)]
          by_cases h5 : (n : Int) > 4096
          · simp only [if_pos h5, show ((3 : Int) = 0) = False from eq_false (by decide), if_false]
            exact Ev.now _
          · simp only [if_neg h5, if_true, Int.toNat_natCast]
            have hn1 := nS_le k n hk
            have hn2 := (nS_spec k n hk).1
            refine join_l0 (k : Int) (m : Int) (n : Int) S H (by omega) (by omega) (lenS k n) _ (fun hok => ?_) (fun hok => by rw [if_neg hok]) H.length 0 (by omega) (fun j hj => absurd hj (Nat.not_lt_zero j))
            rw [if_pos hok]
            simp only [code_Decode.f_oM (k : Int) (m : Int) ha S hr H, Option.bind_some]
            rw [decR_okLen h1 (by omega) (by omega) hok]
            by_cases h6 : ((selN H H.length).length : Int) < (k : Int)
            · simp only [if_pos h6, show ((4 : Int) = 0) = False from eq_false (by decide), if_false]
              exact Ev.now _
            · simp only [if_neg h6, if_true]
              have hS : Reg (selM S H) (selN H H.length).length (lenS k n) := by
                refine ⟨selM_length S H, fun i hi => ?_⟩
                rw [row_selM _ _ _ hi]
                have hm := getD_mem (l := selN H H.length) (i := i) hi
                exact hok _ (selN_lt hm) (List.mem_filter.1 hm).2
              obtain ⟨Y, hY, e1, e2, e3⟩ := decM_law hk h (H := H) (by omega) (by omega) hS
              have hD := mulM_reg (cauM_reg k m) hY hk
              rw [← e1] at hD
              have hwd : wrap64 (Int.tdiv ((lenS k n : Nat) : Int) 16) = ((nS k n : Nat) : Int) := by
                have e0 : Int.tdiv ((lenS k n : Nat) : Int) 16 = ((lenS k n / 16 : Nat) : Int) := (Int.ofNat_tdiv (lenS k n) 16).symm
                rw [e0, show lenS k n / 16 = nS k n by unfold lenS; omega]
                exact w64 _ (by omega) (by omega)
              rw [hwd]
              exact join_l1 (by omega) (by rw [hD.1]; omega) (fun j hj => hD.2 j (by omega)) (by unfold lenS; omega) n (nS k n) rfl (by omega) (nS k n) 0 (by omega)
        · rw [show ((H.length : Int) != (k : Int) + (m : Int)) = true from bne_iff_ne.mpr h4, if_neg (fun hh => h4 hh.2.2)]
          exact no
      · rw [if_neg (fun hh => h3 hh.2.1)]
        simp only [if_neg h3]
        exact no
  · simp only [h1, Bool.false_eq_true, if_false, false_and]
    exact no
end Go.Proofs.YtnfgiamdmfkcjaaDoor.Pure
namespace Go.Proofs.YtnfgiamdmfkcjaaDoor.Pure
open Go.RowKit Go.Proofs.YtnfgiamdmfkcjaaDoorW.PrintWords Go.Proofs.YtnfgiamdmfkcjaaDoor.Leaf Go.Proofs.YtnfgiamdmfkcjaaDoor.P Go.Proofs.YtnfgiamdmfkcjaaDoor.Gf Go.Proofs.YtnfgiamdmfkcjaaDoor.Red Go.Proofs.YtnfgiamdmfkcjaaDoor.H Go.Proofs.YtnfgiamdmfkcjaaDoor.Mx
set_option linter.unusedSimpArgs false
set_option linter.unusedVariables false
theorem ixS_mod {k i x : Nat} (hi : i < k) : ixS k i x / 16 % k = i ∧ ixS k i x / 16 / k * 16 + ixS k i x % 16 = x := by
  have e1 : ixS k i x / 16 = x / 16 * k + i := by unfold ixS; omega
  have e2 : ixS k i x % 16 = x % 16 := by unfold ixS; omega
  have hk : 0 < k := by omega
  have e3 : (x / 16 * k + i) / k = x / 16 := by rw [Nat.add_comm, Nat.add_mul_div_right _ _ hk, Nat.div_eq_of_lt hi, Nat.zero_add]
  rw [e1, e2, e3]
  refine ⟨by rw [Nat.add_comm, Nat.add_mul_mod_self_right, Nat.mod_eq_of_lt hi], by omega⟩
theorem ixS_lt {k i x S : Nat} (hi : i < k) (hx : x < S * 16) : ixS k i x < S * (k * 16) := by
  have h1 : x / 16 < S := by omega
  have h2 : x / 16 * k + i < S * k := by
    calc x / 16 * k + i < x / 16 * k + k := by omega
      _ = (x / 16 + 1) * k := by rw [Nat.succ_mul]
      _ ≤ S * k := Nat.mul_le_mul_right k h1
  unfold ixS
  have e : S * (k * 16) = S * k * 16 := by rw [Nat.mul_assoc]
  omega
theorem at0_take (J : List B) (n y : Nat) : at0 (J.take n) y = if y < n then at0 J y else 0#8 := by
  unfold at0
  by_cases h : y < n
  · rw [List.getD_eq_getElem?_getD, List.getElem?_take_of_lt h, List.getD_eq_getElem?_getD, if_pos h]
  · rw [List.getD_eq_getElem?_getD, List.getElem?_eq_none (by rw [List.length_take]; omega), if_neg h]
    rfl
theorem zs_at {J : List B} {n y : Nat} (hz : Zs (J.drop n)) (hy : n ≤ y) : at0 J y = 0#8 := by
  by_cases h : y < J.length
  · have := hz (J[y]) (List.mem_iff_getElem.2 ⟨y - n, by rw [List.length_drop]; omega, by rw [List.getElem_drop]; congr 1; omega⟩)
    unfold at0
    rw [List.getD_eq_getElem?_getD, List.getElem?_eq_getElem h]
    exact this
  · exact at0_out J y (by omega)
/-- An object whose units are some shards': its shards are they. -/
theorem spM_joinB {D : Mat} {k n : Nat} (hk : 0 < k) (hD : ∀ j, j < k → (row D j).length = lenS k n) (hz : Zs ((joinB D k (nS k n)).drop n)) : ∀ j, j < k → row (spM k (lenS k n) ((joinB D k (nS k n)).take n)) j = row D j := by
  intro j hj
  unfold spM
  rw [row_map _ _ _ hj]
  refine ext0 (by rw [spR_length, hD j hj]) fun x hx => ?_
  rw [spR_length] at hx
  unfold spR
  rw [at0_map _ _ _ hx, if_pos (by unfold lenS at hx ⊢; omega)]
  have hlt := ixS_lt (S := nS k n) hj (show x < nS k n * 16 from hx)
  have hm := ixS_mod (x := x) hj
  have hat := at0_joinB hk hD (nS k n) (Nat.le_refl _) (ixS k j x) hlt
  rw [hm.1, hm.2] at hat
  show at0 _ (ixS k j x) = _
  rw [at0_take]
  by_cases h : ixS k j x < n
  · rw [if_pos h, hat]
  · rw [if_neg h, ← hat, zs_at hz (by omega)]
theorem refs_l0 (K M n : Int) (X : List Int) (R : List Int) (e : Int) (S : Mat) (H : List Bool) (hSH : S.length = H.length) (hH : H.length ≤ 140737488351232) (p : Nat)
    (hgood : okLen S H p → Ev (fun f => if ((selN H H.length).length : Int) < K then (if e = 4 then ((mooringlaw20_awake.f f).bind fun t116 => (some t116)) else (none)) else (if e = 0 then ((mooringref20_Split.f f K M R).bind fun bt117 => (mooringlaw20_StripeRefuses.l1 f n (oM S) R bt117.1 0 0 K M X H)) else ((code_Decode.f K M (oM S) H).bind fun bt125 => (if e = 8 then (mooringlaw20_StripeRefuses.j6 f n (p : Int) bt125.1 (bt125.2 != 0) K M X H) else (mooringlaw20_StripeRefuses.j6 f n (p : Int) bt125.1 true K M X H))))) true)
    (hbad : ¬ okLen S H p → e = 8) (d : Nat) : ∀ i : Nat, i + d = H.length → (∀ j, j < i → H.getD j false = true → (row S j).length = p) →
    Ev (fun f => mooringlaw20_StripeRefuses.l0 f n (oM S) R e (p : Int) ((selN H i).length : Int) (i : Int) K M X H) true := by
  induction d with
  | zero =>
    intro i hi hok
    obtain rfl : i = H.length := by omega
    refine Ev.step (fun f => ?_) (hgood hok)
    simp only [mooringlaw20_StripeRefuses.l0]
    rw [if_neg (by rw [oM_length]; omega)]
  | succ d ih =>
    intro i hi hok
    have hc := selN_le H i
    have wi : wrap64 ((i : Int) + 1) = ((i + 1 : Nat) : Int) := w64 _ (by omega) (by omega)
    have wc : wrap64 (((selN H i).length : Int) + 1) = (((selN H i).length + 1 : Nat) : Int) := w64 _ (by omega) (by omega)
    by_cases h : H.getD i false = true
    · by_cases hl : (row S i).length = p
      · have hn := ih (i + 1) (by omega) (fun j hj hb => by
          by_cases e : j = i
          · subst e; exact hl
          · exact hok j (by omega) hb)
        rw [selN_yes h, List.length_append] at hn
        refine Ev.step (fun f => ?_) hn
        simp only [mooringlaw20_StripeRefuses.l0]
        rw [if_pos (by rw [oM_length]; omega), if_pos (by omega), if_pos (by omega), rdB, if_pos h, rd_oM, ofL_length, if_pos (by omega), wi, wc]
        rfl
      · have he := hbad (fun ho => hl (ho i (by omega) h))
        refine Ev.step (f := fun f => (mooringlaw20_awake.f f).bind fun t115 => (some t115)) (fun f => ?_) (Ev.bind evAwake20 (Ev.now _))
        simp only [mooringlaw20_StripeRefuses.l0]
        rw [if_pos (by rw [oM_length]; omega), if_pos (by omega), if_pos (by omega), rdB, if_pos h, rd_oM, ofL_length, if_neg (by omega), if_pos he]
    · have hn := ih (i + 1) (by omega) (fun j hj hb => by
        by_cases e : j = i
        · subst e; exact absurd hb h
        · exact hok j (by omega) hb)
      rw [selN_no (by simpa using h)] at hn
      refine Ev.step (fun f => ?_) hn
      simp only [mooringlaw20_StripeRefuses.l0]
      rw [if_pos (by rw [oM_length]; omega), if_pos (by omega), if_pos (by omega), rdB, if_neg h, wi]
theorem refs_l1 (k0 : Nat) (M n : Int) (X R : List Int) (hR : (R.length : Int) = n) (D S : Mat) (H : List Bool) (hDH : D.length = H.length) (hSH : S.length = H.length) (hl : H.length ≤ 140737488351232) (hk : k0 ≤ 255)
    (hrow : ∀ i, i < k0 → row D ((selN H H.length).getD i 0) = row S ((selN H H.length).getD i 0)) (d : Nat) :
    ∀ i : Nat, i + d = H.length → Ev (fun k => mooringlaw20_StripeRefuses.l1 k n (oM S) R (oM D) ((min k0 (selN H i).length : Nat) : Int) (i : Int) (k0 : Int) M X H) true := by
  induction d with
  | zero =>
    intro i hi
    obtain rfl : i = H.length := by omega
    refine Ev.step (f := fun k => (mooringlaw20_awake.f k).bind fun t121 => (some t121)) (fun k => ?_) (Ev.bind evAwake20 (Ev.now _))
    simp only [mooringlaw20_StripeRefuses.l1]
    rw [if_neg (by rw [oM_length]; omega), if_pos hR]
  | succ d ih =>
    intro i hi
    have hn := ih (i + 1) (by omega)
    by_cases h : H.getD i false = true
    · by_cases hc : (selN H i).length < k0
      · have hs := selN_at H (d + 1) i H.length hi (by omega) h
        have hr := hrow _ hc
        rw [hs.1] at hr
        refine Ev.step (f := fun k => mooringlaw20_StripeRefuses.j5 k n (oM S) R (oM D) ((min k0 (selN H i).length : Nat) : Int) (i : Int) true (k0 : Int) M X H) (fun k => ?_) ?_
        · simp only [mooringlaw20_StripeRefuses.l1]
          rw [if_pos (by rw [oM_length]; omega), if_pos (by omega), if_pos (by omega), rdB, if_pos h, decide_eq_true (by omega)]
        · refine Ev.step (fun k => ?_) hn
          simp only [mooringlaw20_StripeRefuses.j5, if_true]
          rw [if_pos (by omega), if_pos (by rw [oM_length]; omega), if_pos (by rw [oM_length]; omega), rd_oM, rd_oM, if_pos (by rw [hr]), w64 ((i : Int) + 1) (by omega) (by omega), w64 _ (by omega) (by omega), selN_yes h, List.length_append]
          rw [show ((min k0 (selN H i).length : Nat) : Int) + 1 = ((min k0 ((selN H i).length + [i].length) : Nat) : Int) by rw [show [i].length = 1 from rfl]; omega]
          rfl
      · refine Ev.step (f := fun k => mooringlaw20_StripeRefuses.j5 k n (oM S) R (oM D) ((min k0 (selN H i).length : Nat) : Int) (i : Int) false (k0 : Int) M X H) (fun k => ?_) ?_
        · simp only [mooringlaw20_StripeRefuses.l1]
          rw [if_pos (by rw [oM_length]; omega), if_pos (by omega), if_pos (by omega), rdB, if_pos h, decide_eq_false (by omega)]
        · refine Ev.step (fun k => ?_) hn
          simp only [mooringlaw20_StripeRefuses.j5, Bool.false_eq_true, if_false]
          rw [w64 ((i : Int) + 1) (by omega) (by omega), selN_yes h, List.length_append]
          rw [show min k0 ((selN H i).length + [i].length) = min k0 (selN H i).length by rw [show [i].length = 1 from rfl]; omega]
          rfl
    · refine Ev.step (f := fun k => mooringlaw20_StripeRefuses.j5 k n (oM S) R (oM D) ((min k0 (selN H i).length : Nat) : Int) (i : Int) false (k0 : Int) M X H) (fun k => ?_) ?_
      · simp only [mooringlaw20_StripeRefuses.l1]
        rw [if_pos (by rw [oM_length]; omega), if_pos (by omega), if_pos (by omega), rdB, if_neg h]
      · refine Ev.step (fun k => ?_) hn
        simp only [mooringlaw20_StripeRefuses.j5, Bool.false_eq_true, if_false]
        rw [w64 ((i : Int) + 1) (by omega) (by omega), selN_no (by simpa using h)]
        rfl
/-- Something behind the object's end that is no nought. -/
def BadAt (D : Mat) (k n i x : Nat) : Prop := n ≤ ixS k i x ∧ at0 (row D i) x ≠ 0#8
theorem refs_l3 {D : Mat} {k p : Nat} (hk : k ≤ 254) (hD : ∀ j, j < k → (row D j).length = p) (hDl : k ≤ D.length) (hp : p ≤ 70000) (n : Nat) (M : Int) (X : List Int) (H : List Bool) (i : Nat) (hi : i < k)
    (hnext : (∀ x, x < p → ¬ BadAt D k n i x) → Ev (fun f => mooringlaw20_StripeRefuses.l2 f (n : Int) (p : Int) (oM D) ((i + 1 : Nat) : Int) (k : Int) M X H) true) (d : Nat) : ∀ x : Nat, x + d = p → (∀ y, y < x → ¬ BadAt D k n i y) →
    Ev (fun f => mooringlaw20_StripeRefuses.l3 f (n : Int) (p : Int) (oM D) (i : Int) (x : Int) (k : Int) M X H) true := by
  induction d with
  | zero =>
    intro x hx hno
    obtain rfl : x = p := by omega
    refine Ev.step (fun f => ?_) (hnext hno)
    simp only [mooringlaw20_StripeRefuses.l3]
    rw [if_neg (by omega), w64 ((i : Int) + 1) (by omega) (by omega)]
    rfl
  | succ d ih =>
    intro x hx hno
    have hix := ix_eq k i x hk (by omega) (by omega)
    have wx : wrap64 ((x : Int) + 1) = ((x + 1 : Nat) : Int) := w64 _ (by omega) (by omega)
    by_cases h1 : n ≤ ixS k i x
    · by_cases h2 : at0 (row D i) x = 0#8
      · refine Ev.step (fun f => ?_) (ih (x + 1) (by omega) (fun y hy => by
          by_cases e : y = x
          · subst e; exact fun hb => hb.2 h2
          · exact hno y (by omega)))
        simp only [mooringlaw20_StripeRefuses.l3, hix]
        rw [if_pos (by omega), if_pos (by omega), if_pos (by omega), if_pos (by rw [oM_length]; omega), if_pos (by omega), rd_oM, if_pos (by rw [ofL_length, hD i hi]; omega), rd_ofL, h2, if_pos ofB_zero, wx]
      · refine Ev.step (f := fun f => (mooringlaw20_awake.f f).bind fun t131 => (some t131)) (fun f => ?_) (Ev.bind evAwake20 (Ev.now _))
        simp only [mooringlaw20_StripeRefuses.l3, hix]
        rw [if_pos (by omega), if_pos (by omega), if_pos (by omega), if_pos (by rw [oM_length]; omega), if_pos (by omega), rd_oM, if_pos (by rw [ofL_length, hD i hi]; omega), rd_ofL, if_neg (fun e => h2 ((ofB_eq_zero _).1 e))]
    · refine Ev.step (fun f => ?_) (ih (x + 1) (by omega) (fun y hy => by
        by_cases e : y = x
        · subst e; exact fun hb => h1 hb.1
        · exact hno y (by omega)))
      simp only [mooringlaw20_StripeRefuses.l3, hix]
      rw [if_pos (by omega), if_neg (by omega), wx]
theorem refs_l2 {D : Mat} {k p : Nat} (hk : k ≤ 254) (hD : ∀ j, j < k → (row D j).length = p) (hDl : k ≤ D.length) (hp : p ≤ 70000) (n : Nat) (M : Int) (X : List Int) (H : List Bool) (d : Nat) : ∀ i : Nat, i + d = k → (∃ j x, i ≤ j ∧ j < k ∧ x < p ∧ BadAt D k n j x) →
    Ev (fun f => mooringlaw20_StripeRefuses.l2 f (n : Int) (p : Int) (oM D) (i : Int) (k : Int) M X H) true := by
  induction d with
  | zero =>
    rintro i hi ⟨j, x, h1, h2, _⟩
    omega
  | succ d ih =>
    rintro i hi ⟨j, x, h1, h2, h3, h4⟩
    refine Ev.step (fun f => ?_) (refs_l3 hk hD hDl hp n M X H i (by omega) (fun hno => ih (i + 1) (by omega) ⟨j, x, by
      by_cases e : j = i
      · subst e; exact absurd h4 (hno x h3)
      · omega, h2, h3, h4⟩) p 0 (by omega) (fun y hy => absurd hy (Nat.not_lt_zero y)))
    simp only [mooringlaw20_StripeRefuses.l2]
    rw [if_pos (by omega)]
    rfl
open Classical in
theorem StripeRefuses (K : Int) (wK : (Lit.int .i64 K).wf = true) (M : Int) (wM : (Lit.int .i64 M).wf = true) (X : List B) (hX : X.length ≤ 140737488351232) (H : List Bool) (hH : H.length ≤ 140737488351232)
    (n : Int) (wn : (Lit.int .i64 n).wf = true) (S : Mat) (hs : S.length * 24 ≤ 140737488351232) (hr : ∀ i, i < S.length → (row S i).length ≤ 140737488351232) : Ev (fun k => mooringlaw20_StripeRefuses.f k K M (ofL X) H n (oM S)) true := by
  have ha := bounds_i64 wK
  have no : Ev (fun k => mooringlaw20_StripeRefuses.j0 k n (oM S) true K M (ofL X) H) true :=
    Ev.step (f := fun k => (mooringlaw20_awake.f k).bind fun t103 => (some t103)) (fun k => by simp only [mooringlaw20_StripeRefuses.j0, if_true]) (Ev.bind evAwake20 (Ev.now _))
  unfold mooringlaw20_StripeRefuses.f
  obtain ⟨t, ht⟩ := light20 K M ha.1
  simp only [ht, Option.bind_some]
  cases t with
  | false => simp only [Bool.false_eq_true, if_false]; exact no
  | true =>
    simp only [if_true]
    by_cases h300 : ((oM S).length : Int) > 300
    · rw [decide_eq_true h300]; exact no
    · rw [decide_eq_false h300]
      have hj := evJoin K M n ha.1 S (fun i hi => by have := hr i hi; omega) H
      have hempty : (joinR K M n S H).2 ≠ 0 → (joinR K M n S H).1 = [] := by
        unfold joinR finJ
        repeat' split
        all_goals first | exact fun _ => rfl | exact fun h => absurd rfl h
      refine Ev.step (f := fun f => (stripe_Join.f f K M n (oM S) H).bind fun bt104 => (if bt104.2 = 0 then (mooringlaw20_StripeRefuses.j1 f n (oM S) bt104.1 bt104.2 false K M (ofL X) H) else (mooringlaw20_StripeRefuses.j1 f n (oM S) bt104.1 bt104.2 ((bt104.1.length : Int) != 0) K M (ofL X) H))) (fun f => by simp only [mooringlaw20_StripeRefuses.j0, Bool.false_eq_true, if_false]) ?_
      refine Ev.bind hj ?_
      have hj1 : (if (joinR K M n S H).2 = 0 then false else (((joinR K M n S H).1.length : Int) != 0)) = false := by
        by_cases h : (joinR K M n S H).2 = 0
        · rw [if_pos h]
        · rw [if_neg h, hempty h]
          rfl
      refine Ev.congr (f := fun f => mooringlaw20_StripeRefuses.j1 f n (oM S) (joinR K M n S H).1 (joinR K M n S H).2 false K M (ofL X) H) (fun f => ?_) ?_
      · by_cases h : (joinR K M n S H).2 = 0
        · rw [if_pos h]
        · rw [if_neg h] at hj1 ⊢
          rw [hj1]
      have bad1 : (joinR K M n S H).2 = 1 → Ev (fun f => mooringlaw20_StripeRefuses.j2 f n (oM S) (joinR K M n S H).1 (joinR K M n S H).2 true K M (ofL X) H) true := fun he =>
        Ev.step (f := fun k => (mooringlaw20_awake.f k).bind fun t109 => (some t109)) (fun k => by simp only [mooringlaw20_StripeRefuses.j2, if_true, if_pos he]) (Ev.bind evAwake20 (Ev.now _))
      rcases codeB_form K M with ⟨h1, k, m, rfl, rfl, hk, hm, h, e⟩ | ⟨h1, e⟩
      · have hw : wrap64 ((k : Int) + (m : Int)) = (k : Int) + (m : Int) := w64 _ (by omega) (by omega)
        by_cases h2 : n < 0
        · refine Ev.step (fun f => ?_) (bad1 (by unfold joinR; rw [if_neg (fun hh => absurd hh.2.1 (by omega))]))
          simp only [mooringlaw20_StripeRefuses.j1, Bool.false_eq_true, if_false, code_eq _ _ ha.1, h1, Option.bind_some, if_true, if_pos h2]
        · by_cases h3 : (S.length : Int) = (H.length : Int)
          · by_cases h4 : (S.length : Int) = (k : Int) + (m : Int)
            · obtain ⟨n, rfl⟩ := Int.eq_ofNat_of_zero_le (show 0 ≤ n by omega)
              refine Ev.step (f := fun f => mooringlaw20_StripeRefuses.j2 f (n : Int) (oM S) (joinR (k : Int) (m : Int) (n : Int) S H).1 (joinR (k : Int) (m : Int) (n : Int) S H).2 false (k : Int) (m : Int) (ofL X) H) (fun f => ?_) ?_
              · simp only [mooringlaw20_StripeRefuses.j1, Bool.false_eq_true, if_false, code_eq _ _ ha.1, h1, Option.bind_some, if_true, if_neg h2, oM_length, if_pos h3, hw]
                rw [show ((S.length : Int) != (k : Int) + (m : Int)) = false from bne_eq_false_iff_eq.mpr h4]
              have hJ : joinR (k : Int) (m : Int) (n : Int) S H = if (n : Int) > 4096 then ([], 3) else if okLen S H (lenS k n) then (if ((selN H H.length).length : Int) < (k : Int) then ([], 4) else finJ n (joinB (decM k m S H) k (nS k n))) else ([], 8) := by
                unfold joinR
                rw [if_pos ⟨h1, by omega, h4, by omega⟩]
                simp only [Int.toNat_natCast]
              by_cases h5 : (n : Int) > 4096
              · rw [if_pos h5] at hJ
                refine Ev.step (f := fun f => (mooringlaw20_awake.f f).bind fun t110 => (some t110)) (fun f => ?_) (Ev.bind evAwake20 (Ev.now _))
                simp only [mooringlaw20_StripeRefuses.j2, Bool.false_eq_true, if_false, if_pos h5, hJ, if_true]
              · rw [if_neg h5] at hJ
                have hn1 := nS_le k n hk
                have hn2 := (nS_spec k n hk).1
                refine Ev.step (f := fun f => (mooringref20_Length.f f (k : Int) (n : Int)).bind fun bt111 => (mooringlaw20_StripeRefuses.l0 f (n : Int) (oM S) (joinR (k : Int) (m : Int) (n : Int) S H).1 (joinR (k : Int) (m : Int) (n : Int) S H).2 bt111.1 0 0 (k : Int) (m : Int) (ofL X) H)) (fun f => by simp only [mooringlaw20_StripeRefuses.j2, Bool.false_eq_true, if_false, if_neg h5]) ?_
                refine Ev.bind (evRefLength (k : Int) (n : Int)) ?_
                have hlr : lenR (k : Int) (n : Int) = (((lenS k n : Nat) : Int), 0) := by
                  unfold lenR
                  rw [if_pos (by omega), if_neg h5, Int.toNat_natCast, Int.toNat_natCast]
                rw [hlr]
                refine refs_l0 (k : Int) (m : Int) (n : Int) (ofL X) _ _ S H (by omega) hH (lenS k n) (fun hok => ?_) (fun hok => by rw [hJ, if_neg hok]) H.length 0 (by omega) (fun j hj => absurd hj (Nat.not_lt_zero j))
                rw [if_pos hok] at hJ
                by_cases h6 : ((selN H H.length).length : Int) < (k : Int)
                · rw [if_pos h6] at hJ
                  simp only [hJ, if_pos h6, if_true]
                  exact Ev.bind evAwake20 (Ev.now _)
                · rw [if_neg h6] at hJ
                  have hS : Reg (selM S H) (selN H H.length).length (lenS k n) := by
                    refine ⟨selM_length S H, fun i hi => ?_⟩
                    rw [row_selM _ _ _ hi]
                    have hm := getD_mem (l := selN H H.length) (i := i) hi
                    exact hok _ (selN_lt hm) (List.mem_filter.1 hm).2
                  obtain ⟨Y, hY, e1, e2, e3⟩ := decM_law hk h (H := H) (by omega) (by omega) hS
                  have hD := mulM_reg (cauM_reg k m) hY hk
                  rw [← e1] at hD
                  have hDr : ∀ j, j < k → (row (decM k m S H) j).length = lenS k n := fun j hj => hD.2 j (by omega)
                  have hp : lenS k n ≤ 70000 := by unfold lenS; omega
                  have hJl := joinB_length hDr (nS k n) (Nat.le_refl _)
                  unfold finJ at hJ
                  by_cases hz : Zs ((joinB (decM k m S H) k (nS k n)).drop n)
                  · rw [if_pos hz] at hJ
                    have hbl : ((joinB (decM k m S H) k (nS k n)).take n).length = n := by rw [List.length_take, hJl]; omega
                    simp only [hJ, if_neg h6, if_true]
                    refine Ev.bind (evRefSplit (k : Int) (m : Int) ha.1 _ (by rw [hbl]; omega)) ?_
                    have hsp := (splR_yes hk hm h ((joinB (decM k m S H) k (nS k n)).take n) (by rw [hbl]; omega)).1
                    rw [hbl] at hsp
                    have hrw := spM_joinB hk hDr hz
                    have hXY : spM k (lenS k n) ((joinB (decM k m S H) k (nS k n)).take n) = Y := by
                      have hX1 := spM_reg k (lenS k n) ((joinB (decM k m S H) k (nS k n)).take n)
                      refine mat_ext hX1 hY fun i j hi hj => ?_
                      unfold el
                      rw [hrw i hi, ← e2, row_take3 _ _ _ hi]
                    rw [hXY, ← e1] at hsp
                    rw [hsp]
                    have hfin := refs_l1 k (m : Int) (n : Int) (ofL X) (ofL ((joinB (decM k m S H) k (nS k n)).take n)) (by rw [ofL_length, hbl]) (decM k m S H) S H (by rw [hD.1]; omega) (by omega) hH (by omega) e3 H.length 0 (by omega)
                    rw [show min k (selN H 0).length = 0 from Nat.min_zero k] at hfin
                    exact hfin
                  · rw [if_neg hz] at hJ
                    simp only [hJ, if_neg h6, show ((8 : Int) = 0) = False from eq_false (by decide), if_false, if_true]
                    simp only [code_Decode.f_oM (k : Int) (m : Int) ha.1 S (fun i hi => by have := hr i hi; omega) H, Option.bind_some]
                    rw [decR_okLen h1 (by omega) (by omega) hok, if_neg h6]
                    refine Ev.step (f := fun f => mooringlaw20_StripeRefuses.l2 f (n : Int) ((lenS k n : Nat) : Int) (oM (decM k m S H)) ((0 : Nat) : Int) (k : Int) (m : Int) (ofL X) H) (fun f => by simp only [mooringlaw20_StripeRefuses.j6]; rfl) ?_
                    refine refs_l2 (by omega) hDr (by rw [hD.1]; omega) hp n (m : Int) (ofL X) H k 0 (by omega) ?_
                    obtain ⟨x, hx, hx0⟩ : ∃ x, x ∈ (joinB (decM k m S H) k (nS k n)).drop n ∧ x ≠ 0#8 := Classical.byContradiction fun hne => hz fun x hx => Classical.byContradiction fun h0 => hne ⟨x, hx, h0⟩
                    obtain ⟨y, hy, rfl⟩ := List.mem_iff_getElem.1 hx
                    rw [List.length_drop, hJl] at hy
                    rw [List.getElem_drop] at hx0
                    have hat := at0_joinB hk hDr (nS k n) (Nat.le_refl _) (n + y) (by omega)
                    have hi : (n + y) / 16 % k < k := Nat.mod_lt _ hk
                    have e4 : ixS k ((n + y) / 16 % k) ((n + y) / 16 / k * 16 + (n + y) % 16) = n + y := by
                      have e5 : ((n + y) / 16 / k * 16 + (n + y) % 16) / 16 = (n + y) / 16 / k := by omega
                      have e6 : ((n + y) / 16 / k * 16 + (n + y) % 16) % 16 = (n + y) % 16 := by omega
                      have e7 : (n + y) / 16 / k * k + (n + y) / 16 % k = (n + y) / 16 := by rw [Nat.mul_comm]; exact Nat.div_add_mod _ _
                      unfold ixS
                      rw [e5, e6, e7]
                      omega
                    refine ⟨(n + y) / 16 % k, (n + y) / 16 / k * 16 + (n + y) % 16, Nat.zero_le _, hi, ?_, by rw [e4]; omega, ?_⟩
                    · have h7 : (n + y) / 16 < nS k n * k := by
                        have : nS k n * (k * 16) = nS k n * k * 16 := by rw [Nat.mul_assoc]
                        omega
                      have h8 : (n + y) / 16 / k < nS k n := (Nat.div_lt_iff_lt_mul hk).2 h7
                      unfold lenS
                      omega
                    · rw [← hat]
                      unfold at0
                      rw [List.getD_eq_getElem?_getD, List.getElem?_eq_getElem (by rw [hJl]; omega)]
                      exact hx0
            · refine Ev.step (fun f => ?_) (bad1 (by unfold joinR; rw [if_neg (fun hh => h4 hh.2.2.1)]))
              simp only [mooringlaw20_StripeRefuses.j1, Bool.false_eq_true, if_false, code_eq _ _ ha.1, h1, Option.bind_some, if_true, if_neg h2, oM_length, if_pos h3, hw]
              rw [show ((S.length : Int) != (k : Int) + (m : Int)) = true from bne_iff_ne.mpr h4]
          · refine Ev.step (fun f => ?_) (bad1 (by unfold joinR; rw [if_neg (fun hh => h3 (by omega))]))
            simp only [mooringlaw20_StripeRefuses.j1, Bool.false_eq_true, if_false, code_eq _ _ ha.1, h1, Option.bind_some, if_true, if_neg h2, oM_length, if_neg h3]
      · refine Ev.step (fun f => ?_) (bad1 (by unfold joinR; rw [if_neg (fun hh => by rw [h1] at hh; cases hh.1)]))
        simp only [mooringlaw20_StripeRefuses.j1, Bool.false_eq_true, if_false, code_eq _ _ ha.1, h1, Option.bind_some]
end Go.Proofs.YtnfgiamdmfkcjaaDoor.Pure
namespace Go.Proofs.YtnfgiamdmfkcjaaDoor.H
open Go.RowKit Go.Proofs.YtnfgiamdmfkcjaaDoorW.PrintWords Go.Proofs.YtnfgiamdmfkcjaaDoorW.PrintLast Go.Proofs.YtnfgiamdmfkcjaaDoor.Leaf Go.Proofs.YtnfgiamdmfkcjaaDoor.Gf Go.Proofs.YtnfgiamdmfkcjaaDoor.Red Go.Proofs.YtnfgiamdmfkcjaaDoor.P
set_option linter.unusedVariables false
set_option linter.unusedSimpArgs false
theorem C_rows_of (w : World) (ad : Addr) (xs : List (List Int)) (As : Nat → Option Addr) (cs : Nat → Nat) (hl : xs.length ≤ 9223372036854775807)
    (h : ∀ j, j < xs.length → w.cell? (ad.add j) = some (.slice (As j) (xs.getD j []).length (cs j)) ∧ (xs.getD j []).length ≤ cs j ∧ Kd.C (Kd.int .u8) w (As j) (xs.getD j []).length (xs.getD j [])) : Kd.C KR w (some ad) xs.length xs := by
  refine ⟨rfl, hl, fun _ => ⟨ad, rfl, fun j p hj => ?_⟩⟩
  obtain ⟨hlt, hp⟩ := List.getElem?_eq_some_iff.1 hj
  have hd : xs.getD j [] = p := by rw [List.getD_eq_getElem?_getD, hj]; rfl
  obtain ⟨h1, h2, h3⟩ := h j hlt
  rw [hd] at h1 h2 h3
  refine ⟨[.slice (As j) p.length (cs j)], rfl, ⟨As j, cs j, rfl, h2, h3⟩, fun i u hu => ?_⟩
  cases i with
  | zero =>
    cases hu
    show w.cell? (ad.add (j * 1 + 0)) = _
    rw [Nat.mul_one, Nat.add_zero]
    exact h1
  | succ i => simp at hu
end Go.Proofs.YtnfgiamdmfkcjaaDoor.H
namespace Go.Proofs.YtnfgiamdmfkcjaaDoor.H
open Go.RowKit Go.ChangeShapes Go.WideShapes Go.Deep Go.Proofs.YtnfgiamdmfkcjaaDoorW.PrintWords Go.Proofs.YtnfgiamdmfkcjaaDoor.Leaf Go.Proofs.YtnfgiamdmfkcjaaDoor.Gf Go.Proofs.YtnfgiamdmfkcjaaDoor.Red
set_option linter.unusedVariables false
theorem rows_weights {H : Type} {P : Program} {e : TypeId} : ∀ {l : List (DataW H)} {d : DataW H}, d ∈ l → ∀ n ∈ d.weights P e, n ∈ DataW.weightsAll P e l
  | d0 :: l, d, hd, n, hn => by
    simp only [DataW.weightsAll, List.mem_append]
    rcases List.mem_cons.1 hd with rfl | hd
    · exact Or.inl hn
    · exact Or.inr (rows_weights hd n hn)
theorem u8_range {x : Int} (h : (Lit.int .u8 x).wf = true) : 0 ≤ x ∧ x < 256 := by
  have h1 : 0 ≤ x ∧ x ≤ 255 := by simpa [Lit.wf, IntKind.min, IntKind.max, IntKind.signed, IntKind.bits] using h
  omega
theorem rows_arg {H : Type} {enc : TypeId × Value → H} {W : World} {a : Option Addr} {len cap : Nat} {d : DataW H} {ps : List MemPlace} (h : DataW.Trod enc Tryd.prog W 0 (fun _ => true) true 26 (.slice a len cap) d ps) (hw : ∀ x ∈ d.weights Tryd.prog 26, x ≤ reachBytes) :
    ∃ M : Mat, len = M.length ∧ len ≤ cap ∧ Kd.C KR W a len (oM M) ∧ len * 24 ≤ 140737488351232 ∧ ∀ i, i < M.length → (row M i).length ≤ 140737488351232 := by
  obtain ⟨fuel, hf⟩ := h
  rcases open_int_rows Tryd.underlying26 Tryd.underlying22 Tryd.underlying5 (by kernel_rfl) (by kernel_rfl) hf with ⟨hcs, _⟩ | ⟨a', len', cap', A, L, C, Z, hcs, _, hl, hm, hx, hrow⟩
  · simp [Value.cells] at hcs
    obtain ⟨rfl, rfl, rfl⟩ := hcs
    exact ⟨[], rfl, Nat.le_refl _, Kd.C_nil _ _, by decide, fun i hi => absurd hi (Nat.not_lt_zero _)⟩
  · simp [Value.cells] at hcs
    obtain ⟨rfl, rfl, rfl⟩ := hcs
    obtain ⟨rfl, _⟩ := Prod.mk.inj hx
    have hlen : len ≤ 9223372036854775807 := by unfold maxLen at hm; omega
    let M : Mat := (List.range len).map fun r => ((Z r).take (L r)).map toB
    have hML : M.length = len := by simp [M]
    have hMr : ∀ r, r < len → row M r = ((Z r).take (L r)).map toB := fun r hr => row_map len (fun r => ((Z r).take (L r)).map toB) r hr
    have hlr : ∀ r, r < len → (row M r).length = L r := by
      intro r hr
      obtain ⟨_, h1, _, h2, _⟩ := hrow r (by omega)
      rw [hMr r hr, List.length_map, List.length_take, h2]
      omega
    have hof : ∀ r, r < len → ofL (row M r) = (Z r).take (L r) := by
      intro r hr
      obtain ⟨_, _, _, _, hz, _⟩ := hrow r (by omega)
      rw [hMr r hr]
      unfold ofL
      rw [List.map_map]
      refine (List.map_congr_left fun x hx => ?_).trans (List.map_id' _)
      have := u8_range (hz x (List.mem_of_mem_take hx))
      exact ofB_toB x this.1 this.2
    refine ⟨M, hML.symm, hl, ?_, ?_, fun r hr => ?_⟩
    · have hC := C_rows_of W a' (oM M) A C (by rw [oM_length, hML]; exact hlen) (fun r hr => by
        rw [oM_length, hML] at hr
        obtain ⟨hc, h1, h2, h3, h4, h5, h6⟩ := hrow r (by omega)
        have e : (oM M).getD r [] = ofL (row M r) := map_getD M r
        rw [e, ofL_length, hlr r hr]
        refine ⟨hc, h1, by rw [ofL_length, hlr r hr], by unfold maxLen at h2; omega, fun hp => ?_⟩
        cases hA : A r with
        | none => have := h5 hA; omega
        | some ad =>
          obtain ⟨_, h7⟩ := h6 ad hA
          refine ⟨ad, rfl, fun j p hj => ⟨[.int .u8 p], rfl, rfl, fun i u hu => ?_⟩⟩
          cases i with
          | zero =>
            cases hu
            show W.cell? (ad.add (j * 1 + 0)) = _
            rw [Nat.mul_one, Nat.add_zero]
            have hj' := (List.getElem?_eq_some_iff.1 hj).1
            rw [ofL_length, hlr r hr] at hj'
            rw [h7 j (by omega)]
            rw [hof r hr, List.getElem?_take, if_pos hj'] at hj
            rw [List.getD_eq_getElem?_getD, hj]
            rfl
          | succ i => simp at hu)
      rw [oM_length, hML] at hC
      exact hC
    · have h1 : ((len + (cap - len)) * 24) ∈ (DataW.slice ((List.range len).map fun r => intRow (H := H) .u8 (A r) (L r) (Z r)) ((List.range (cap - len)).map fun j => intRow .u8 (A (len + j)) (L (len + j)) (Z (len + j)))).weights Tryd.prog 26 := by
        simp only [DataW.weights, Tryd.underlying26, List.length_map, List.length_range]
        rw [show Tryd.prog.bytesOf 22 = 24 by kernel_rfl]
        exact List.mem_cons_self
      have h2 := hw _ h1
      have : reachBytes = 140737488351232 := by decide
      omega
    · rw [hML] at hr
      obtain ⟨hc, h1, h2, h3, h4, h5, h6⟩ := hrow r (by omega)
      rw [hlr r hr]
      cases hA : A r with
      | none => have := h5 hA; omega
      | some ad =>
        have hmem : intRow (H := H) .u8 (A r) (L r) (Z r) ∈ (List.range len).map fun r => intRow (H := H) .u8 (A r) (L r) (Z r) := List.mem_map.2 ⟨r, List.mem_range.2 hr, rfl⟩
        have hin := hw (((lits (H := H) .u8 ((Z r).take (L r))).length + (lits (H := H) .u8 ((Z r).drop (L r))).length) * 1) (by
          simp only [DataW.weights, Tryd.underlying26]
          refine List.mem_cons_of_mem _ (List.mem_append_left _ (rows_weights hmem _ ?_))
          rw [hA]
          simp only [intRow, DataW.weights, Tryd.underlying22]
          rw [show Tryd.prog.bytesOf 5 = 1 by kernel_rfl]
          exact List.mem_cons_self)
        have : reachBytes = 140737488351232 := by decide
        simp [lits] at hin
        omega
end Go.Proofs.YtnfgiamdmfkcjaaDoor.H
namespace Go.Proofs.YtnfgiamdmfkcjaaDoor.H
open Go.RowKit Go.ChangeShapes Go.WideShapes Go.Deep Go.Joins Go.Proofs.YtnfgiamdmfkcjaaDoorW.PrintWords Go.Proofs.YtnfgiamdmfkcjaaDoor.Leaf Go.Proofs.YtnfgiamdmfkcjaaDoor.Gf Go.Proofs.YtnfgiamdmfkcjaaDoor.Red
set_option linter.unusedVariables false
theorem bools_arg {H : Type} {enc : TypeId × Value → H} {W : World} {a : Option Addr} {len cap : Nat} {d : DataW H} {ps : List MemPlace} (h : DataW.Trod enc Tryd.prog W 0 (fun _ => true) true 23 (.slice a len cap) d ps) (hw : ∀ x ∈ d.weights Tryd.prog 23, x ≤ reachBytes) :
    ∃ B : List Bool, len = B.length ∧ len ≤ cap ∧ Kd.C Kd.bool W a len B ∧ len ≤ 140737488351232 := by
  obtain ⟨fuel, hf⟩ := h
  rcases open_bools Tryd.underlying23 Tryd.underlying4 (by kernel_rfl) hf with ⟨hcs, _⟩ | ⟨a', len', cap', B, hcs, _, hl, hm, hx, hcell⟩
  · simp [Value.cells] at hcs
    obtain ⟨rfl, rfl, rfl⟩ := hcs
    exact ⟨[], rfl, Nat.le_refl _, Kd.C_nil _ _, by decide⟩
  · simp [Value.cells] at hcs
    obtain ⟨rfl, rfl, rfl⟩ := hcs
    obtain ⟨rfl, _⟩ := Prod.mk.inj hx
    refine ⟨(List.range len).map B, by simp, hl, ?_, ?_⟩
    · refine Kd.C_of_reads (d := false) ⟨by simp, by unfold maxLen at hm; omega, fun h0 => ⟨a', rfl, fun j hj => ?_⟩⟩
      rw [hcell j (by omega), List.getD_eq_getElem?_getD, List.getElem?_map, List.getElem?_range hj]
      rfl
    · have hx := hw ((len + (cap - len)) * Tryd.prog.bytesOf 4) (by simp [boolRow, DataW.weights, Tryd.underlying23])
      rw [show Tryd.prog.bytesOf 4 = 1 by kernel_rfl] at hx
      unfold reachBytes at hx
      omega
end Go.Proofs.YtnfgiamdmfkcjaaDoor.H
namespace Go.Proofs.YtnfgiamdmfkcjaaDoor.H
open Go.RowKit Go.ChangeShapes Go.WideShapes Go.Deep Go.Joins Go.Proofs.YtnfgiamdmfkcjaaDoorW.PrintWords Go.Proofs.YtnfgiamdmfkcjaaDoor.Leaf Go.Proofs.YtnfgiamdmfkcjaaDoor.Gf Go.Proofs.YtnfgiamdmfkcjaaDoor.Red
set_option linter.unusedVariables false
theorem bytes_arg {H : Type} {enc : TypeId × Value → H} {W : World} {a : Option Addr} {len cap : Nat} {d : DataW H} {ps : List MemPlace} (h : DataW.Trod enc Tryd.prog W 0 (fun _ => true) true 22 (.slice a len cap) d ps) (hw : ∀ x ∈ d.weights Tryd.prog 22, x ≤ reachBytes) :
    ∃ L : List B, len = (ofL L).length ∧ len ≤ cap ∧ Kd.C (Kd.int .u8) W a (ofL L).length (ofL L) ∧ L.length ≤ 140737488351232 := by
  obtain ⟨fuel, hf⟩ := h
  rcases open_ints Tryd.underlying22 Tryd.underlying5 (by kernel_rfl) hf with ⟨hcs, _⟩ | ⟨x, l, c, zs, hcs, _, hl, hm, hz, hx, hcell, hwz⟩
  · simp [Value.cells] at hcs
    obtain ⟨rfl, rfl, rfl⟩ := hcs
    exact ⟨[], rfl, Nat.le_refl _, Kd.C_nil _ _, by decide⟩
  · simp [Value.cells] at hcs
    obtain ⟨rfl, rfl, rfl⟩ := hcs
    obtain ⟨rfl, _⟩ := Prod.mk.inj hx
    obtain ⟨l', hl', hr, hm', hw', hc'⟩ := ReadsInt.ofRowC (k := .u8) (w := W) (a := some x) (len := len) (cap := cap) (zs := zs) (.inr ⟨x, rfl, hl, hm, by simpa using hz, hcell, hwz⟩)
    obtain ⟨L, rfl⟩ := row_of hw'
    refine ⟨L, hl', hl, Kd.C_of_reads (d := (0 : Int)) (h1 := fun _ => rfl) hr, ?_⟩
    have hx := hw ((len + (cap - len)) * Tryd.prog.bytesOf 5) (by
      have hzc : zs.length = cap := by simpa using hz
      simp only [DataW.weights, Tryd.underlying22, List.mem_cons]
      refine Or.inl ?_
      congr 1
      simp [lits]
      omega)
    rw [show Tryd.prog.bytesOf 5 = 1 by kernel_rfl] at hx
    unfold reachBytes at hx
    rw [ofL_length] at hl'
    omega
set_option maxRecDepth 100000 in
theorem lost20_arg {H : Type} {enc : TypeId × Value → H} {W : World} {r : Reach} {b0 : Nat} {v : Value} {d : DataW H} {ps : List MemPlace} (hv : Value.okWide Tryd.prog W r b0 25 v) (h : DataW.Trod enc Tryd.prog W 0 (fun _ => true) true 25 v d ps) (hw : ∀ x ∈ d.weights Tryd.prog 25, x ≤ reachBytes) :
    ∃ (K M : Int) (A : Option Addr) (c : Nat) (L : List B) (A' : Option Addr) (c' : Nat) (B : List Bool), v = .agg #[.int .i64 K, .int .i64 M, .slice A (ofL L).length c, .slice A' B.length c'] ∧ (Lit.int .i64 K).wf = true ∧ (Lit.int .i64 M).wf = true ∧
      Kd.C (Kd.int .u8) W A (ofL L).length (ofL L) ∧ (ofL L).length ≤ c ∧ L.length ≤ 140737488351232 ∧ Kd.C Kd.bool W A' B.length B ∧ B.length ≤ c' ∧ B.length ≤ 140737488351232 := by
  obtain ⟨v0, v1, v2, v3, y0, y1, y2, y3, n, rfl, rfl, rfl, h0, h1, h2, h3⟩ := open_agg4 Tryd.underlying25 (by kernel_rfl) (by kernel_rfl) hv h
  obtain ⟨K, e0, e0', wK⟩ := DataW.trod_int (k := .i64) Tryd.underlying3 h0
  obtain ⟨M, e1, e1', wM⟩ := DataW.trod_int (k := .i64) Tryd.underlying3 h1
  obtain rfl : v0 = .int .i64 K := by simpa using e0
  obtain rfl : v1 = .int .i64 M := by simpa using e1
  have hs2 : ∃ a len cap, v2 = .slice a len cap := by
    rcases open_slice Tryd.underlying22 h2 with ⟨hc, _⟩ | ⟨a, len, cap, _, _, _, _, hc, _⟩
    · exact ⟨none, 0, 0, by simpa using hc⟩
    · exact ⟨some a, len, cap, by simpa using hc⟩
  have hs3 : ∃ a len cap, v3 = .slice a len cap := by
    rcases open_slice Tryd.underlying23 h3 with ⟨hc, _⟩ | ⟨a, len, cap, _, _, _, _, hc, _⟩
    · exact ⟨none, 0, 0, by simpa using hc⟩
    · exact ⟨some a, len, cap, by simpa using hc⟩
  obtain ⟨A, l2, c2, rfl⟩ := hs2
  obtain ⟨A', l3, c3, rfl⟩ := hs3
  have hw2 : ∀ x ∈ y2.1.weights Tryd.prog 22, x ≤ reachBytes := fun x hx => hw x (by
    simp only [DataW.weights, Tryd.underlying25]
    exact DataW.weights_mem_each (j := 2) rfl rfl x hx)
  have hw3 : ∀ x ∈ y3.1.weights Tryd.prog 23, x ≤ reachBytes := fun x hx => hw x (by
    simp only [DataW.weights, Tryd.underlying25]
    exact DataW.weights_mem_each (j := 3) rfl rfl x hx)
  obtain ⟨L, hl, hc, hC, hs⟩ := bytes_arg (d := y2.1) (ps := y2.2) ⟨n, h2⟩ hw2
  obtain ⟨B, hl', hc', hC', hs'⟩ := bools_arg (d := y3.1) (ps := y3.2) ⟨n, h3⟩ hw3
  subst hl hl'
  exact ⟨K, M, A, c2, L, A', c3, B, rfl, wK, wM, hC, hc, hs, hC', hc', hs'⟩
end Go.Proofs.YtnfgiamdmfkcjaaDoor.H
