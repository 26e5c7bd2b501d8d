/- Words and walks that the claim RebuildChunks leans on (what it does not use is left out). -/
import Derived.Test.YtnfgiamdmfkcjaaDoorMRebuildChunks2
import Derived.Laws.CopyOwn
import Derived.Test.YtnfgiamdmfkcjaaDoorMRebuildChunks1
set_option linter.unusedSimpArgs false
set_option linter.unusedVariables false
namespace Go.Proofs.YtnfgiamdmfkcjaaDoor.Red
open Go.RowKit Go.Proofs.YtnfgiamdmfkcjaaDoorW.PrintWords Go.Proofs.YtnfgiamdmfkcjaaDoor.Leaf Go.Proofs.YtnfgiamdmfkcjaaDoor.Gf Go.Proofs.YtnfgiamdmfkcjaaDoor.H Go.Proofs.YtnfgiamdmfkcjaaDoor.Mx
theorem row_swap (A : Mat) (i j k : Nat) (hi : i < A.length) (hj : j < A.length) : row (swapM A i j) k = row A (if k = j then i else if k = i then j else k) := by
 unfold swapM
 rw [row_set _ _ _ _ (by simpa using hj), row_set _ _ _ _ hi]
 by_cases e : k = j
 ·rw [if_pos e, if_pos e]
 ·rw [if_neg e, if_neg e]
  by_cases e2 : k = i
  ·rw [if_pos e2, if_pos e2]
  ·rw [if_neg e2, if_neg e2]
theorem scF_at (v : B) (n : Nat) : ∀ (j0 : Nat) (r : List B) (j : Nat), j0 + n = r.length → at0 (scF v n j0 r) j = if j0 ≤ j ∧ j < r.length then mul (at0 r j) v else at0 r j := by
 induction n with
 | zero =>
  intro j0 r j h
  simp only [scF]
  rw [if_neg (by omega)]
 | succ n ih =>
  intro j0 r j h
  simp only [scF]
  rw [ih (j0 + 1) _ j (by rw [List.length_set]; omega), List.length_set, at0_set _ _ _ _ (by omega)]
  by_cases e : j0 = j
  ·subst e
   rw [if_neg (by omega), if_pos rfl, if_pos (by omega)]
  ·rw [if_neg e]
   by_cases h2 : j0 + 1 ≤ j ∧ j < r.length
   ·rw [if_pos h2, if_pos (by omega)]
   ·rw [if_neg h2, if_neg (by omega)]
theorem scale_at (v : B) (r : List B) (j : Nat) (hj : j < r.length) : at0 (scale v r) j = mul (at0 r j) v := by
 unfold scale
 rw [scF_at v r.length 0 r j (by omega), if_pos (by omega)]
theorem elF_row (c d : Nat) (n : Nat) : ∀ (i : Nat) (A Z : Mat), i + n = A.length → A.length = Z.length → d < A.length →
 (elF c d n i A Z).1.length = A.length ∧ (elF c d n i A Z).2.length = Z.length ∧
 (∀ k, row (elF c d n i A Z).1 k = if i ≤ k ∧ k < A.length ∧ k ≠ d ∧ el A k c ≠ 0#8 then am (row A k) (row A d) (el A k c) (row A k).length else row A k) ∧
 (∀ k, row (elF c d n i A Z).2 k = if i ≤ k ∧ k < A.length ∧ k ≠ d ∧ el A k c ≠ 0#8 then am (row Z k) (row Z d) (el A k c) (row Z k).length else row Z k) := by
 induction n with
 | zero =>
  intro i A Z h hl hd
  simp only [elF]
  exact ⟨trivial, trivial, fun k => by rw [if_neg (by omega)], fun k => by rw [if_neg (by omega)]⟩
 | succ n ih =>
  intro i A Z h hl hd
  simp only [elF]
  by_cases hc : i ≠ d ∧ el A i c ≠ 0#8
  ·rw [if_pos hc]
   obtain ⟨h1, h2, h3, h4⟩ := ih (i + 1) (A.set i (am (row A i) (row A d) (el A i c) (row A i).length)) (Z.set i (am (row Z i) (row Z d) (el A i c) (row Z i).length)) (by rw [List.length_set]; omega) (by rw [List.length_set, List.length_set]; exact hl) (by rw [List.length_set]; exact hd)
   rw [List.length_set] at h1 h2 h3 h4
   have qk := fun k => row_set A i k (am (row A i) (row A d) (el A i c) (row A i).length) (by omega)
   have qz := fun k => row_set Z i k (am (row Z i) (row Z d) (el A i c) (row Z i).length) (by omega)
   have qd := (qk d).trans (if_neg (fun e : d = i => hc.1 e.symm))
   have qy := (qz d).trans (if_neg (fun e : d = i => hc.1 e.symm))
   have qe : ∀ k, k ≠ i → el (A.set i (am (row A i) (row A d) (el A i c) (row A i).length)) k c = el A k c := by
    intro k hk
    unfold el
    unfold el at qk
    rw [qk, if_neg hk]
   refine ⟨h1, h2, fun k => ?_, fun k => ?_⟩
   ·by_cases e : k = i
    ·rw [h3 k, if_neg (by omega), qk, if_pos e, e, if_pos ⟨Nat.le_refl _, by omega, hc.1, hc.2⟩]
    ·rw [h3 k, qe k e, qk, if_neg e, qd]
     by_cases h5 : i + 1 ≤ k ∧ k < A.length ∧ k ≠ d ∧ el A k c ≠ 0#8
     ·rw [if_pos h5, if_pos ⟨by omega, h5.2⟩]
     ·rw [if_neg h5, if_neg (fun h6 => h5 ⟨by omega, h6.2⟩)]
   ·by_cases e : k = i
    ·rw [h4 k, if_neg (by omega), qz, if_pos e, e, if_pos ⟨Nat.le_refl _, by omega, hc.1, hc.2⟩]
    ·rw [h4 k, qe k e, qz, if_neg e, qy]
     by_cases h5 : i + 1 ≤ k ∧ k < A.length ∧ k ≠ d ∧ el A k c ≠ 0#8
     ·rw [if_pos h5, if_pos ⟨by omega, h5.2⟩]
     ·rw [if_neg h5, if_neg (fun h6 => h5 ⟨by omega, h6.2⟩)]
  ·rw [if_neg hc]
   obtain ⟨h1, h2, h3, h4⟩ := ih (i + 1) A Z (by omega) hl hd
   refine ⟨h1, h2, fun k => ?_, fun k => ?_⟩
   ·rw [h3 k]
    by_cases e : k = i
    ·subst e
     rw [if_neg (by omega), if_neg (fun h6 => hc h6.2.2)]
    ·by_cases h5 : i + 1 ≤ k ∧ k < A.length ∧ k ≠ d ∧ el A k c ≠ 0#8
     ·rw [if_pos h5, if_pos ⟨by omega, h5.2⟩]
     ·rw [if_neg h5, if_neg (fun h6 => h5 ⟨by omega, h6.2⟩)]
   ·rw [h4 k]
    by_cases e : k = i
    ·subst e
     rw [if_neg (by omega), if_neg (fun h6 => hc h6.2.2)]
    ·by_cases h5 : i + 1 ≤ k ∧ k < A.length ∧ k ≠ d ∧ el A k c ≠ 0#8
     ·rw [if_pos h5, if_pos ⟨by omega, h5.2⟩]
     ·rw [if_neg h5, if_neg (fun h6 => h5 ⟨by omega, h6.2⟩)]
theorem am_at (L M : List B) (s : B) (j : Nat) (hj : j < L.length) : at0 (am L M s L.length) j = at0 L j ^^^ mul (at0 M j) s := by
 rw [at0_am _ _ _ _ _ hj, if_pos hj]
/-- The turn of a column, element by element. -/
theorem stepF_spec {n m p : Nat} {A Z : Mat} (hA : Reg A n m) (hZ : Reg Z n p) {c d t : Nat} (hd : d < n) (ht : t < n) (hc : c < m) :
 Reg (stepF c d t A Z).1 n m ∧ Reg (stepF c d t A Z).2 n p ∧
 (∀ i j, i < n → j < m → el (stepF c d t A Z).1 i j = if i = d then mul (el A t j) (inv (el A t c)) else el A (if i = t then d else i) j ^^^ mul (mul (el A t j) (inv (el A t c))) (el A (if i = t then d else i) c)) ∧
 (∀ i j, i < n → j < p → el (stepF c d t A Z).2 i j = if i = d then mul (el Z t j) (inv (el A t c)) else el Z (if i = t then d else i) j ^^^ mul (mul (el Z t j) (inv (el A t c))) (el A (if i = t then d else i) c)) := by
 have hA1 := hA.swap ht hd
 have hZ1 := hZ.swap ht hd
 have rA := fun k => row_swap A t d k (by rw [hA.1]; exact ht) (by rw [hA.1]; exact hd)
 have rZ := fun k => row_swap Z t d k (by rw [hZ.1]; exact ht) (by rw [hZ.1]; exact hd)
 have sA : (swapM A t d).length = n := hA1.1
 have sZ : (swapM Z t d).length = n := hZ1.1
 have rAd : row (swapM A t d) d = row A t := by rw [rA, if_pos rfl]
 have rZd : row (swapM Z t d) d = row Z t := by rw [rZ, if_pos rfl]
 have hv : el (swapM A t d) d c = el A t c := by unfold el; rw [rAd]
 unfold stepF
 simp only []
 rw [hv, rAd, rZd]
 have hA2 : Reg ((swapM A t d).set d (scale (inv (el A t c)) (row A t))) n m := hA1.set hd (by rw [scale_length]; exact hA.2 t ht)
 have hZ2 : Reg ((swapM Z t d).set d (scale (inv (el A t c)) (row Z t))) n p := hZ1.set hd (by rw [scale_length]; exact hZ.2 t ht)
 have qA : ∀ k, row ((swapM A t d).set d (scale (inv (el A t c)) (row A t))) k = if k = d then scale (inv (el A t c)) (row A t) else row A (if k = t then d else k) := by
  intro k
  rw [row_set _ _ _ _ (by rw [sA]; exact hd), rA]
  by_cases e : k = d
  ·rw [if_pos e, if_pos e]
  ·rw [if_neg e, if_neg e, if_neg e]
 have qZ : ∀ k, row ((swapM Z t d).set d (scale (inv (el A t c)) (row Z t))) k = if k = d then scale (inv (el A t c)) (row Z t) else row Z (if k = t then d else k) := by
  intro k
  rw [row_set _ _ _ _ (by rw [sZ]; exact hd), rZ]
  by_cases e : k = d
  ·rw [if_pos e, if_pos e]
  ·rw [if_neg e, if_neg e, if_neg e]
 generalize (swapM A t d).set d (scale (inv (el A t c)) (row A t)) = A2 at *
 generalize (swapM Z t d).set d (scale (inv (el A t c)) (row Z t)) = Z2 at *
 obtain ⟨l1, l2, e1, e2⟩ := elF_row c d A2.length 0 A2 Z2 (by omega) (by rw [hA2.1, hZ2.1]) (by rw [hA2.1]; exact hd)
 have hs : ∀ i, i < n → (if i = t then d else i) < n := by
  intro i hi
  by_cases e : i = t
  ·rw [if_pos e]; exact hd
  ·rw [if_neg e]; exact hi
 refine ⟨⟨by rw [l1, hA2.1], fun i hi => ?_⟩, ⟨by rw [l2, hZ2.1], fun i hi => ?_⟩, fun i j hi hj => ?_, fun i j hi hj => ?_⟩
 ·rw [e1]
  split
  ·rw [am_length]; exact hA2.2 i hi
  ·exact hA2.2 i hi
 ·rw [e2]
  split
  ·rw [am_length]; exact hZ2.2 i hi
  ·exact hZ2.2 i hi
 ·show at0 (row (elF c d A2.length 0 A2 Z2).1 i) j = _
  rw [e1, hA2.1]
  by_cases e : i = d
  ·rw [if_neg (fun h => h.2.2.1 e), if_pos e, qA, if_pos e, scale_at _ _ _ (by rw [hA.2 t ht]; exact hj)]
   rfl
  ·have q1 : row A2 i = row A (if i = t then d else i) := by rw [qA, if_neg e]
   have q2 : row A2 d = scale (inv (el A t c)) (row A t) := by rw [qA, if_pos rfl]
   have q3 : el A2 i c = el A (if i = t then d else i) c := by unfold el; rw [q1]
   rw [if_neg e, q3, q1, q2]
   by_cases hx : el A (if i = t then d else i) c = 0#8
   ·rw [if_neg (fun h => h.2.2.2 hx), hx, mul_zero, BitVec.xor_zero]
    rfl
   ·rw [if_pos ⟨Nat.zero_le _, hi, e, hx⟩, am_at _ _ _ _ (by rw [hA.2 _ (hs i hi)]; exact hj), scale_at _ _ _ (by rw [hA.2 t ht]; exact hj)]
    rfl
 ·show at0 (row (elF c d A2.length 0 A2 Z2).2 i) j = _
  rw [e2, hA2.1]
  by_cases e : i = d
  ·rw [if_neg (fun h => h.2.2.1 e), if_pos e, qZ, if_pos e, scale_at _ _ _ (by rw [hZ.2 t ht]; exact hj)]
   rfl
  ·have q1 : row A2 i = row A (if i = t then d else i) := by rw [qA, if_neg e]
   have q3 : el A2 i c = el A (if i = t then d else i) c := by unfold el; rw [q1]
   have q4 : row Z2 i = row Z (if i = t then d else i) := by rw [qZ, if_neg e]
   have q5 : row Z2 d = scale (inv (el A t c)) (row Z t) := by rw [qZ, if_pos rfl]
   rw [if_neg e, q3, q4, q5]
   by_cases hx : el A (if i = t then d else i) c = 0#8
   ·rw [if_neg (fun h => h.2.2.2 hx), hx, mul_zero, BitVec.xor_zero]
    rfl
   ·rw [if_pos ⟨Nat.zero_le _, hi, e, hx⟩, am_at _ _ _ _ (by rw [hZ.2 _ (hs i hi)]; exact hj), scale_at _ _ _ (by rw [hZ.2 t ht]; exact hj)]
    rfl
theorem stepF_steps {n m p : Nat} {A Z : Mat} (hA : Reg A n m) (hZ : Reg Z n p) {c d t : Nat} (hd : d < n) (ht : t < n) (hc : c < m) (hx : el A t c ≠ 0#8) :
 Rturn n m p (el A) (el Z) (el (stepF c d t A Z).1) (el (stepF c d t A Z).2) := by
 obtain ⟨_, _, h1, h2⟩ := stepF_spec hA hZ hd ht hc
 have s1 := Rturn.swap (m := m) (p := p) (s := t) (t := d) (el A) (el Z) ht hd
 have s2 := s1.trans (Rturn.scale (d := d) _ _ (inv_ne _ hx))
 have s3 := s2.trans (Rturn.add (d := d) _ _ (fun i => if i = d then 0#8 else el A (if i = t then d else i) c) hd (if_pos rfl))
 refine s3.congr (fun i j hi hj => ?_) (fun i j hi hj => ?_)
 ·rw [h1 i j hi hj]
  by_cases e : i = d
  ·simp only [if_pos e, zero_mul, BitVec.xor_zero]
   rw [mul_comm]
  ·simp only [if_neg e, one_mul, if_true]
   rw [mul_comm (el A (if i = t then d else i) c), mul_comm (inv (el A t c))]
 ·rw [h2 i j hi hj]
  by_cases e : i = d
  ·simp only [if_pos e, zero_mul, BitVec.xor_zero]
   rw [mul_comm]
  ·simp only [if_neg e, one_mul, if_true]
   rw [mul_comm (el A (if i = t then d else i) c), mul_comm (inv (el A t c))]
/-- Where the pivot is. -/
theorem pivot_miss {n m : Nat} {A : Mat} (hA : Reg A n m) {d c : Nat} (h : pivot A d c < 0) : ∀ i, d ≤ i → i < n → el A i c = 0#8 := by
 intro i h1 h2
 unfold pivot at h
 have h3 : decide (0 ≤ firstP (fun j => rd (ofL (row A (d + j))) (c : Int) != 0) (A.length - d)) = false := decide_eq_false (by omega)
 rw [firstP_nonneg, List.any_eq_false] at h3
 have h4 := h3 (i - d) (List.mem_range.2 (by rw [hA.1]; omega))
 rw [show d + (i - d) = i by omega] at h4
 have h5 : rd (ofL (row A i)) (c : Int) = 0 := by simpa using h4
 rw [rd_ofL, ofB_eq_zero] at h5
 exact h5
theorem firstP_found {p : Nat → Bool} {n : Nat} (h : ¬ firstP p n < 0) : ∃ k : Nat, firstP p n = (k : Int) ∧ k < n ∧ p k = true ∧ ∀ j, j < k → p j = false := by
 unfold firstP at h ⊢
 cases e : (List.range n).find? p with
 | none => rw [e] at h; exact absurd (by decide) h
 | some k =>
  rw [List.find?_range_eq_some] at e
  exact ⟨k, rfl, List.mem_range.1 e.2.1, e.1, fun j hj => by simpa using e.2.2 j hj⟩
theorem pivot_hit {n m : Nat} {A : Mat} (hA : Reg A n m) {d c : Nat} (h : ¬ pivot A d c < 0) : ∃ t : Nat, pivot A d c = (t : Int) ∧ d + t < n ∧ el A (d + t) c ≠ 0#8 ∧ ∀ i, d ≤ i → i < d + t → el A i c = 0#8 := by
 obtain ⟨t, h1, h2, h3, h4⟩ := firstP_found h
 refine ⟨t, h1, by rw [hA.1] at h2; omega, fun e => ?_, fun i hi1 hi2 => ?_⟩
 ·have h5 : rd (ofL (row A (d + t))) (c : Int) ≠ 0 := by simpa using h3
  rw [rd_ofL] at h5
  exact h5 ((ofB_eq_zero _).2 e)
 ·have h5 := h4 (i - d) (by omega)
  rw [show d + (i - d) = i by omega] at h5
  have h6 : rd (ofL (row A i)) (c : Int) = 0 := by simpa using h5
  rw [rd_ofL, ofB_eq_zero] at h6
  exact h6
/-- How far the columns are: below row d nought, and where each column had a row: the identity. -/
def Done (n c d : Nat) (A : Mat) : Prop := d ≤ c ∧ (∀ i, d ≤ i → i < n → ∀ j, j < c → el A i j = 0#8) ∧ (d = c → ∀ i, i < n → ∀ j, j < c → el A i j = I i j)
theorem done_miss {n m c d : Nat} {A : Mat} (hA : Reg A n m) (h : Done n c d A) (hp : pivot A d c < 0) : Done n (c + 1) d A := by
 refine ⟨by have := h.1; omega, fun i h1 h2 j hj => ?_, fun e => by have := h.1; omega⟩
 by_cases e : j = c
 ·subst e; exact pivot_miss hA hp i h1 h2
 ·exact h.2.1 i h1 h2 j (by omega)
theorem done_step {n m p c d t : Nat} {A Z : Mat} (hA : Reg A n m) (hZ : Reg Z n p) (hd : d < n) (hdt : d ≤ t) (ht : t < n) (hc : c < m) (hx : el A t c ≠ 0#8) (h : Done n c d A) : Done n (c + 1) (d + 1) (stepF c d t A Z).1 := by
 obtain ⟨_, _, h1, _⟩ := stepF_spec hA hZ hd ht hc
 have hcol : ∀ i, i < n → i ≠ d → el (stepF c d t A Z).1 i c = 0#8 := by
  intro i hi e
  rw [h1 i c hi hc, if_neg e, mul_inv _ hx, one_mul, BitVec.xor_self]
 refine ⟨by have := h.1; omega, fun i hi1 hi2 j hj => ?_, fun e i hi j hj => ?_⟩
 ·by_cases e : j = c
  ·subst e; exact hcol i hi2 (by omega)
  ·rw [h1 i j hi2 (by omega), if_neg (by omega), h.2.1 t hdt ht j (by omega), zero_mul, zero_mul, BitVec.xor_zero]
   by_cases e2 : i = t
   ·rw [if_pos e2]; exact h.2.1 d (Nat.le_refl _) hd j (by omega)
   ·rw [if_neg e2]; exact h.2.1 i (by omega) hi2 j (by omega)
 ·have hdc : d = c := by omega
  by_cases e1 : j = c
  ·subst e1
   by_cases e2 : i = d
   ·rw [h1 i j hi hc, if_pos e2, mul_inv _ hx]
    unfold I
    rw [if_pos (by omega)]
   ·rw [hcol i hi e2]
    unfold I
    rw [if_neg (by omega)]
  ·rw [h1 i j hi (by omega), h.2.1 t hdt ht j (by omega), zero_mul, zero_mul, BitVec.xor_zero]
   by_cases e2 : i = d
   ·rw [if_pos e2]
    unfold I
    rw [if_neg (by omega)]
   ·rw [if_neg e2]
    by_cases e3 : i = t
    ·rw [if_pos e3, h.2.1 d (Nat.le_refl _) hd j (by omega)]
     unfold I
     rw [if_neg (by omega)]
    ·rw [if_neg e3]
     exact h.2.2 hdc i hi j (by omega)
theorem redF_spec {n m p : Nat} (fuel : Nat) : ∀ (c d : Nat) (A Z : Mat), c + fuel = m → d < n → Reg A n m → Reg Z n p →
 Reg (redF fuel c d A Z).2.1 n m ∧ Reg (redF fuel c d A Z).2.2 n p ∧ (redF fuel c d A Z).1 ≤ n ∧ Rturn n m p (el A) (el Z) (el (redF fuel c d A Z).2.1) (el (redF fuel c d A Z).2.2) ∧
 (Done n c d A → ((redF fuel c d A Z).1 < n → ∀ j, j < m → el (redF fuel c d A Z).2.1 (redF fuel c d A Z).1 j = 0#8) ∧ ((redF fuel c d A Z).1 = n → n = m → ∀ i, i < n → ∀ j, j < n → el (redF fuel c d A Z).2.1 i j = I i j)) := by
 induction fuel with
 | zero =>
  intro c d A Z hc hd hA hZ
  simp only [redF]
  refine ⟨hA, hZ, by omega, Rturn.refl _ _ _ _ _, fun h => ⟨fun _ j hj => h.2.1 d (Nat.le_refl _) hd j (by omega), fun e => by omega⟩⟩
 | succ fuel ih =>
  intro c d A Z hc hd hA hZ
  simp only [redF]
  by_cases hp : pivot A d c < 0
  ·rw [if_pos hp]
   obtain ⟨r1, r2, r3, r4, r5⟩ := ih (c + 1) d A Z (by omega) hd hA hZ
   exact ⟨r1, r2, r3, r4, fun h => r5 (done_miss hA h hp)⟩
  ·rw [if_neg hp]
   obtain ⟨t, e, ht, hx, _⟩ := pivot_hit hA hp
   rw [e, show ((t : Int)).toNat = t from rfl]
   have ht' : t + d < n := by omega
   have hx' : el A (t + d) c ≠ 0#8 := by rw [Nat.add_comm]; exact hx
   have hst := stepF_steps hA hZ hd ht' (show c < m by omega) hx'
   obtain ⟨g1, g2, _, _⟩ := stepF_spec hA hZ hd ht' (show c < m by omega)
   have hdn := fun h => done_step hA hZ hd (by omega : d ≤ t + d) ht' (show c < m by omega) hx' h
   generalize stepF c d (t + d) A Z = S at *
   by_cases he : d + 1 = A.length
   ·rw [if_pos he]
    have hA1 := hA.1
    refine ⟨g1, g2, by omega, hst, fun h => ⟨fun h2 => by omega, fun _ hnm i hi j hj => ?_⟩⟩
    have hd1 := hdn h
    have hdc := h.1
    exact hd1.2.2 (by omega) i hi j (by omega)
   ·rw [if_neg he]
    have hA1 := hA.1
    obtain ⟨r1, r2, r3, r4, r5⟩ := ih (c + 1) (d + 1) S.1 S.2 (by omega) (by omega) g1 g2
    exact ⟨r1, r2, r3, hst.trans r4, fun h => r5 (hdn h)⟩
theorem done_start (n : Nat) (A : Mat) : Done n 0 0 A := ⟨Nat.le_refl _, fun _ _ _ j hj => by omega, fun _ _ _ j hj => by omega⟩
/-- The identity. -/
def idM (n : Nat) : Mat := (List.range n).map fun i => (List.range n).map fun j => if i = j then 1#8 else 0#8
theorem row_map (n : Nat) (f : Nat → List B) (i : Nat) (hi : i < n) : row ((List.range n).map f) i = f i := by
 unfold row
 rw [List.getD_eq_getElem?_getD, List.getElem?_map, List.getElem?_range hi]
 rfl
theorem at0_map (n : Nat) (f : Nat → B) (i : Nat) (hi : i < n) : at0 ((List.range n).map f) i = f i := by
 unfold at0
 rw [List.getD_eq_getElem?_getD, List.getElem?_map, List.getElem?_range hi]
 rfl
/-- The matrix of n rows and m columns whose elements are told. -/
def matF (n m : Nat) (f : Fm) : Mat := (List.range n).map fun i => (List.range m).map (f i)
theorem matF_reg (n m : Nat) (f : Fm) : Reg (matF n m f) n m := ⟨by simp [matF], fun i hi => by unfold matF; rw [row_map _ _ _ hi]; simp⟩
theorem el_matF {n m : Nat} (f : Fm) {i j : Nat} (hi : i < n) (hj : j < m) : el (matF n m f) i j = f i j := by
 unfold el matF
 rw [row_map _ _ _ hi, at0_map _ _ _ hj]
theorem idM_eq (n : Nat) : idM n = matF n n I := rfl
theorem mat_ext {n m : Nat} {A C : Mat} (hA : Reg A n m) (hC : Reg C n m) (h : ∀ i j, i < n → j < m → el A i j = el C i j) : A = C := by
 refine List.ext_getElem (by rw [hA.1, hC.1]) fun i h1 h2 => ?_
 have hi : i < n := by rw [← hA.1]; exact h1
 have e1 : A[i] = row A i := by unfold row; rw [List.getD_eq_getElem?_getD, List.getElem?_eq_getElem h1]; rfl
 have e2 : C[i] = row C i := by unfold row; rw [List.getD_eq_getElem?_getD, List.getElem?_eq_getElem h2]; rfl
 rw [e1, e2]
 exact ext0 (by rw [hA.2 i hi, hC.2 i hi]) fun j hj => h i j hi (by rw [← hA.2 i hi]; exact hj)
/-- What Inverse tells: a matrix' inverse on both sides, if no rank is lost. -/
theorem inverse_yes {n : Nat} {A : Mat} (hn : 0 < n) (hA : Reg A n n) (h : (redF n 0 0 A (idM n)).1 = n) :
 Reg (redF n 0 0 A (idM n)).2.2 n n ∧ (∀ i j, i < n → j < n → mm n (el (redF n 0 0 A (idM n)).2.2) (el A) i j = I i j) ∧ ∀ i j, i < n → j < n → mm n (el A) (el (redF n 0 0 A (idM n)).2.2) i j = I i j := by
 obtain ⟨r1, r2, r3, r4, r5⟩ := redF_spec n 0 0 A (idM n) (by omega) hn hA (matF_reg n n I)
 have hI := (r5 (done_start n A)).2 h rfl
 have r4' : Rturn n n n (el A) I (el (redF n 0 0 A (idM n)).2.1) (el (redF n 0 0 A (idM n)).2.2) := by
  obtain ⟨E, F, h1, h2, h3⟩ := r4
  exact ⟨E, F, h1, h2, fun i j hi hj => (h3 i j hi hj).trans (mm_congr (fun _ _ => rfl) (fun k hk => el_matF I hk hj))⟩
 obtain ⟨q1, q2⟩ := r4'.inverse (fun i j hi hj => hI i hi j hj)
 exact ⟨r2, q1, q2⟩
/-- If a rank is lost, some rows cancel out. -/
theorem inverse_no {n : Nat} {A Z : Mat} {p : Nat} (hn : 0 < n) (hA : Reg A n n) (hZ : Reg Z n p) (h : (redF n 0 0 A Z).1 < n) : ∃ y : Nat → B, (∀ j, j < n → sm n (fun k => mul (y k) (el A k j)) = 0#8) ∧ ∃ k, k < n ∧ y k ≠ 0#8 := by
 obtain ⟨r1, r2, r3, r4, r5⟩ := redF_spec n 0 0 A Z (by omega) hn hA hZ
 exact r4.null h ((r5 (done_start n A)).1 h)
theorem redF_le {n m p : Nat} {A Z : Mat} (hn : 0 < n) (hA : Reg A n m) (hZ : Reg Z n p) : (redF m 0 0 A Z).1 ≤ n := (redF_spec m 0 0 A Z (by omega) hn hA hZ).2.2.1
end Go.Proofs.YtnfgiamdmfkcjaaDoor.Red
namespace Go.Proofs.YtnfgiamdmfkcjaaDoor.H
open Go.RowKit Go.Proofs.YtnfgiamdmfkcjaaDoorW.PrintWords Go.Proofs.YtnfgiamdmfkcjaaDoor.Leaf Go.Proofs.YtnfgiamdmfkcjaaDoor.Gf Go.Proofs.YtnfgiamdmfkcjaaDoor.Red
/-- An outer row of k places, the first ones laid. -/
structure Mp (w : World) (base g cp k : Nat) (id cap : Nat → Nat) (A : List (List Int)) : Prop where
 outer : ∃ fc : Nat → Value, w.ownsRow base 22 1 (.slice (some ⟨g, 0, none⟩) k cp) k (encs (fun j => if j < A.length then sl id cap A j else fc j) (List.range k))
 rows : ∀ i, i < A.length → Rw w base (id i) (cap i) (A.getD i [])
 inj : ∀ i j, i < A.length → j < A.length → id i = id j → i = j
 le : A.length ≤ k
section
variable {w w0 w1 : World} {base g cp k b c : Nat} {id cap : Nat → Nat} {A : List (List Int)} {r : List Int}
theorem Mp.typed (h : Mp w base g cp k id cap A) : ∃ cells, w.heap[g]? = some (.cells cells 22 (0, 0)) := by obtain ⟨fc, ho⟩ := h.outer; exact own_typed ho g rfl
theorem Mp.gbase (h : Mp w base g cp k id cap A) : base ≤ g := by obtain ⟨fc, ho⟩ := h.outer; exact own_base ho g rfl
theorem Mp.glt (h : Mp w base g cp k id cap A) : g < w.heap.size := by obtain ⟨fc, ho⟩ := h.outer; exact own_lt ho g rfl
theorem Mp.ne (h : Mp w base g cp k id cap A) (h2 : Rw w base b c r) : b ≠ g := by
 obtain ⟨cs, hc⟩ := h.typed
 obtain ⟨cs', hc'⟩ := h2.typed
 rintro rfl
 rw [hc] at hc'
 simp at hc'
theorem Mp.move (h : Mp w base g cp k id cap A) (hm : ∀ q, (q = g ∨ ∃ i, i < A.length ∧ q = id i) → w1.heap[q]? = w.heap[q]?) : Mp w1 base g cp k id cap A := by
 obtain ⟨fc, ho⟩ := h.outer
 exact ⟨⟨fc, own_move ho (fun q hq => hm q (.inl (by simpa [Value.ownBlock] using hq.symm)))⟩, fun i hi => own_move (h.rows i hi) (fun q hq => hm q (.inr ⟨i, hi, by simpa [Value.ownBlock] using hq.symm⟩)), h.inj, h.le⟩
theorem Mp.lt (h : Mp w base g cp k id cap A) (q : Nat) (hq : q = g ∨ ∃ i, i < A.length ∧ q = id i) : q < w.heap.size ∧ base ≤ q := by
 rcases hq with rfl | ⟨i, hi, rfl⟩
 ·exact ⟨h.glt, h.gbase⟩
 ·exact ⟨(h.rows i hi).lt, (h.rows i hi).base_⟩
theorem Mp.below (h : Mp w base g cp k id cap A) (hb : Below w.heap.size w w1) : Mp w1 base g cp k id cap A := h.move (fun q hq => hb.block q (h.lt q hq).1)
theorem Mp.at_ (h : Mp w base g cp k id cap A) (i : Nat) (hi : i < A.length) : w.cell? ⟨g, i, none⟩ = some (sl id cap A i) ∧ w.frozen? ⟨g, i, none⟩ = false := by
 obtain ⟨fc, ho⟩ := h.outer
 have hk := h.le
 have := own_at_of (d := 0) ho (i : Int) (by omega) (by omega)
 simpa [rdOf, List.getD_eq_getElem?_getD, List.getElem?_range (show i < k by omega), hi] using this
theorem Mp.free (h : Mp w base g cp k id cap A) (i : Nat) (hi : i < k) : (∃ u, w.cell? ⟨g, i, none⟩ = some u) ∧ w.frozen? ⟨g, i, none⟩ = false := by
 obtain ⟨fc, ho⟩ := h.outer
 have := own_at_of (d := 0) ho (i : Int) (by omega) (by omega)
 exact ⟨⟨_, by simpa using this.1⟩, by simpa using this.2⟩
theorem Mp.start {v : Value} {ok : Nat → Prop} (h : Kd.S (Kd.slice 5 (Kd.int .u8)) 22 w base ok v (List.replicate k [])) (hk : 0 < k) : ∃ g cp, v = .slice (some ⟨g, 0, none⟩) k cp ∧ Mp w base g cp k (fun _ => 0) (fun _ => 0) [] := by
 obtain ⟨g, cp, e, _⟩ := Kd.S_form h (by rw [List.length_replicate]; exact hk)
 rw [List.length_replicate] at e
 obtain ⟨inner, ho⟩ := Kd.S_own h
 rw [List.length_replicate, e] at ho
 refine ⟨g, cp, e, ⟨⟨fun j => inner.getD j undef, ?_⟩, fun i hi => absurd hi (Nat.not_lt_zero _), fun i j hi => absurd hi (Nat.not_lt_zero _), Nat.zero_le _⟩⟩
 have hl : inner.length = k := by have := ho.1; rw [show (Kd.slice 5 (Kd.int .u8)).sz = 1 from rfl] at this; omega
 have e2 : inner = encs (fun j => if j < ([] : List (List Int)).length then sl (fun _ => 0) (fun _ => 0) [] j else inner.getD j undef) (List.range k) := by
  unfold encs
  refine List.ext_getElem (by simp [hl]) fun j h1 h2 => ?_
  simp [List.getD_eq_getElem?_getD, h1]
 rw [← e2]
 exact ho
theorem Mp.add (h : Mp w base g cp k id cap A) (hi : A.length < k) (hr : Rw w base b c r) (hb : ∀ j, j < A.length → id j ≠ b) :
 Mp (w.setCell ⟨g, A.length, none⟩ (.slice (some ⟨b, 0, none⟩) r.length c)) base g cp k (up id A.length b) (up cap A.length c) (A ++ [r]) := by
 obtain ⟨fc, ho⟩ := h.outer
 have hbg := h.ne hr
 have hget : ∀ j, j < A.length → (A ++ [r]).getD j [] = A.getD j [] := fun j hj => by simp [List.getD_eq_getElem?_getD, List.getElem?_append_left hj]
 have hlast : (A ++ [r]).getD A.length [] = r := by simp [List.getD_eq_getElem?_getD]
 refine ⟨⟨fc, ?_⟩, fun i hi2 => ?_, fun i j hi2 hj2 => ?_, by rw [List.length_append]; simp; omega⟩
 ·have := (ho.stored A.length (.slice (some ⟨b, 0, none⟩) r.length c)).1
  have e : (encs (fun j => if j < A.length then sl id cap A j else fc j) (List.range k)).set A.length (.slice (some ⟨b, 0, none⟩) r.length c) = encs (fun j => if j < (A ++ [r]).length then sl (up id A.length b) (up cap A.length c) (A ++ [r]) j else fc j) (List.range k) := by
   refine encs_set hi ?_ (fun j hj hne => ?_)
   ·rw [if_pos (by rw [List.length_append]; simp)]
    unfold sl up
    rw [hlast, if_pos rfl, if_pos rfl]
   ·by_cases e1 : j < A.length
    ·rw [if_pos e1, if_pos (by rw [List.length_append]; simp; omega)]
     unfold sl up
     rw [hget j e1, if_neg hne, if_neg hne]
    ·rw [if_neg e1, if_neg (by rw [List.length_append]; simp; omega)]
  rw [← e]
  exact this
 ·rw [List.length_append] at hi2
  simp only [List.length_cons, List.length_nil, Nat.zero_add] at hi2
  unfold up
  by_cases e : i = A.length
  ·rw [if_pos e, if_pos e, e, hlast]
   exact hr.far (Ne.symm hbg) _
  ·rw [if_neg e, if_neg e, hget i (by omega)]
   exact (h.rows i (by omega)).far (Ne.symm (h.ne (h.rows i (by omega)))) _
 ·rw [List.length_append] at hi2 hj2
  simp only [List.length_cons, List.length_nil, Nat.zero_add] at hi2 hj2
  unfold up
  by_cases e : i = A.length <;> by_cases e2 : j = A.length
  ·intro _; rw [e, e2]
  ·rw [if_pos e, if_neg e2]; intro h3; exact absurd h3.symm (hb j (by omega))
  ·rw [if_neg e, if_pos e2]; intro h3; exact absurd h3 (hb i (by omega))
  ·rw [if_neg e, if_neg e2]; exact h.inj i j (by omega) (by omega)
/-- A copy into a row. -/
theorem Rw.splice (h : Rw w base b c r) : ∃ cur : Array Value, w.heap[b]? = some (.cells cur 5 (0, 0)) ∧ ∀ (off : Nat) (cs : List Int), off + cs.length ≤ r.length →
 off + cs.length ≤ cur.size ∧ Rw (w.setRow b (cur.toList.take off ++ (encs (Value.int .u8) cs ++ cur.toList.drop (off + cs.length))).toArray) base b c (splice r off cs) := by
 obtain ⟨hl, h0 | ⟨g', cap', cur, e, hb, hg, hnc, hcm, hcs, htake⟩⟩ := h
 ·exact absurd h0.1 (by simp)
 ·simp only [Value.slice.injEq, Option.some.injEq, Addr.mk.injEq, and_true, true_and] at e
  obtain ⟨rfl, rfl⟩ := e
  refine ⟨cur, hg, fun off cs hfit => ?_⟩
  have hsz : off + cs.length ≤ cur.size := by omega
  refine ⟨hsz, ?_⟩
  have hls : (Go.splice r off cs).length = r.length := length_splice r off cs hfit
  refine ⟨?_, .inr ⟨b, c, (cur.toList.take off ++ (encs (Value.int .u8) cs ++ cur.toList.drop (off + cs.length))).toArray, ?_, hb, setRow_heap w b cur _ 5 (0, 0) hg, by rw [hls]; exact hnc, hcm, ?_, ?_⟩⟩
  ·simp [encs]
  ·rfl
  ·simp [encs]; omega
  ·simp only [Nat.mul_one] at htake ⊢
   rw [List.toList_toArray, hls]
   unfold Go.splice encs
   rw [List.map_append, List.map_append, List.map_take, List.map_drop]
   unfold encs at htake
   rw [← htake, List.take_take, List.take_append, List.take_append, List.take_take]
   have t1 : (cur.toList.take off).length = off := by rw [List.length_take, Array.length_toList]; omega
   rw [t1]
   congr 1
   ·rw [Nat.min_eq_right (by omega), Nat.min_eq_left (by omega)]
   ·congr 1
    ·rw [List.take_of_length_le (by rw [List.length_map]; omega)]
    ·rw [List.length_map, List.drop_take]
     congr 1
     omega
theorem Mp.copy (h : Mp w base g cp k id cap A) {i : Nat} (hi : i < A.length) {cells : Array Value} {s : List Int} (hs : s.length = (A.getD i []).length) (hr : Rw (w.setRow (id i) cells) base (id i) (cap i) s) : Mp (w.setRow (id i) cells) base g cp k id cap (A.set i s) := by
 obtain ⟨fc, ho⟩ := h.outer
 have hgi := h.ne (h.rows i hi)
 have hsl : ∀ j, (if j < (A.set i s).length then sl id cap (A.set i s) j else fc j) = if j < A.length then sl id cap A j else fc j := by
  intro j
  rw [List.length_set]
  by_cases e : j < A.length
  ·rw [if_pos e, if_pos e]
   unfold sl
   rw [getD_set _ _ _ _ hi]
   by_cases e2 : j = i
   ·subst e2; rw [if_pos rfl, hs]
   ·rw [if_neg e2]
  ·rw [if_neg e, if_neg e]
 refine ⟨⟨fc, ?_⟩, fun j hj => ?_, fun j l hj hl => h.inj j l (by simpa using hj) (by simpa using hl), by rw [List.length_set]; exact h.le⟩
 ·rw [show encs (fun j => if j < (A.set i s).length then sl id cap (A.set i s) j else fc j) (List.range k) = encs (fun j => if j < A.length then sl id cap A j else fc j) (List.range k) from List.map_congr_left fun j _ => hsl j]
  exact own_move ho (fun q hq => setRow_other w (id i) q cells (by
   have : q = g := by simpa [Value.ownBlock] using hq.symm
   rw [this]
   exact Ne.symm hgi))
 ·rw [List.length_set] at hj
  rw [getD_set _ _ _ _ hi]
  by_cases e : j = i
  ·subst e; rw [if_pos rfl]; exact hr
  ·rw [if_neg e]
   exact own_move (h.rows j hj) (fun q hq => setRow_other w (id i) q cells (by
    have : q = id j := by simpa [Value.ownBlock] using hq.symm
    rw [this]
    exact fun e2 => e (h.inj j i hj hi e2)))
theorem Mp.full (h : Mp w base g cp k id cap A) (hk : A.length = k) : Mt w base g cp id cap A := by
 obtain ⟨fc, ho⟩ := h.outer
 subst hk
 refine ⟨?_, h.rows, h.inj⟩
 rw [show encs (sl id cap A) (List.range A.length) = encs (fun j => if j < A.length then sl id cap A j else fc j) (List.range A.length) from List.map_congr_left fun j hj => (if_pos (List.mem_range.1 hj)).symm]
 exact ho
end
end Go.Proofs.YtnfgiamdmfkcjaaDoor.H
namespace Go.Proofs.YtnfgiamdmfkcjaaDoor.Red
open Go.RowKit Go.Proofs.YtnfgiamdmfkcjaaDoorW.PrintWords Go.Proofs.YtnfgiamdmfkcjaaDoor.Leaf Go.Proofs.YtnfgiamdmfkcjaaDoor.Gf Go.Proofs.YtnfgiamdmfkcjaaDoor.H
/-- Row i of what is dealt out, the first s units laid. -/
def spR (k n : Nat) (L : List B) (i s : Nat) : List B := (List.range n).map fun x => if x < s * 16 then at0 L ((x / 16 * k + i) * 16 + x % 16) else 0#8
def spM (k n : Nat) (L : List B) : Mat := (List.range k).map fun i => spR k n L i (n / 16)
theorem spR_length (k n : Nat) (L : List B) (i s : Nat) : (spR k n L i s).length = n := by simp [spR]
theorem spM_reg (k n : Nat) (L : List B) : Reg (spM k n L) k n := ⟨by simp [spM], fun i hi => by unfold spM; rw [row_map _ _ _ hi, spR_length]⟩
theorem at0_splice (L : List B) (off : Nat) (cs : List B) (x : Nat) (h : off + cs.length ≤ L.length) : at0 (splice L off cs) x = if off ≤ x ∧ x < off + cs.length then at0 cs (x - off) else at0 L x := by
 unfold splice at0
 simp only [List.getD_eq_getElem?_getD]
 have t1 : (L.take off).length = off := by rw [List.length_take]; omega
 by_cases h1 : x < off
 ·rw [List.getElem?_append_left (by omega), List.getElem?_take, if_pos h1, if_neg (by omega)]
 ·rw [List.getElem?_append_right (by omega), t1]
  by_cases h2 : x < off + cs.length
  ·rw [List.getElem?_append_left (by omega), if_pos ⟨by omega, h2⟩]
  ·rw [List.getElem?_append_right (by omega), List.getElem?_drop, if_neg (by omega), show off + cs.length + (x - off - cs.length) = x by omega]
theorem at0_out (L : List B) (x : Nat) (h : L.length ≤ x) : at0 L x = 0#8 := by
 unfold at0
 rw [List.getD_eq_getElem?_getD, List.getElem?_eq_none h]
 rfl
theorem spR_next (k n : Nat) (L : List B) (i s : Nat) (hs : (s + 1) * 16 ≤ n) (hat : (s * k + i) * 16 < L.length) : splice (spR k n L i s) (s * 16) ((L.drop ((s * k + i) * 16)).take 16) = spR k n L i (s + 1) := by
 have hl : ((L.drop ((s * k + i) * 16)).take 16).length ≤ 16 := List.length_take_le _ _
 have hfit : s * 16 + ((L.drop ((s * k + i) * 16)).take 16).length ≤ (spR k n L i s).length := by rw [spR_length]; omega
 refine ext0 (by rw [length_splice _ _ _ hfit, spR_length, spR_length]) fun x hx => ?_
 rw [length_splice _ _ _ hfit, spR_length] at hx
 rw [at0_splice _ _ _ _ hfit]
 have e : ∀ s', at0 (spR k n L i s') x = if x < s' * 16 then at0 L ((x / 16 * k + i) * 16 + x % 16) else 0#8 := fun s' => at0_map _ _ _ hx
 rw [e, e]
 by_cases h1 : x < s * 16
 ·rw [if_neg (by omega), if_pos h1, if_pos (by omega)]
 ·by_cases h2 : x < (s + 1) * 16
  ·rw [if_pos h2]
   have hxs : x / 16 = s := by omega
   rw [hxs]
   have hx16 : (s * k + i) * 16 + x % 16 = (s * k + i) * 16 + (x - s * 16) := by omega
   rw [hx16]
   by_cases h3 : x < s * 16 + ((L.drop ((s * k + i) * 16)).take 16).length
   ·rw [if_pos ⟨by omega, h3⟩]
    unfold at0
    simp only [List.getD_eq_getElem?_getD, List.getElem?_take, List.getElem?_drop]
    rw [if_pos (by omega)]
   ·rw [if_neg (by omega), if_neg h1, at0_out]
    rw [List.length_take, List.length_drop] at h3
    omega
  ·rw [if_neg (by omega), if_neg h1, if_neg h2]
theorem spR_skip (k n : Nat) (L : List B) (i s : Nat) (hat : L.length ≤ (s * k + i) * 16) : spR k n L i (s + 1) = spR k n L i s := by
 unfold spR
 refine List.map_congr_left fun x hx => ?_
 by_cases h1 : x < s * 16
 ·rw [if_pos (by omega), if_pos h1]
 ·rw [if_neg h1]
  by_cases h2 : x < (s + 1) * 16
  ·rw [if_pos h2, show x / 16 = s by omega, at0_out _ _ (by omega)]
  ·rw [if_neg h2]
theorem spR_zero (k n : Nat) (L : List B) (i : Nat) : spR k n L i 0 = List.replicate n 0#8 := by
 refine List.ext_getElem (by simp [spR]) fun x h1 h2 => ?_
 simp [spR]
end Go.Proofs.YtnfgiamdmfkcjaaDoor.Red
namespace Go.Proofs.YtnfgiamdmfkcjaaDoor.P
open Go.Proofs.YtnfgiamdmfkcjaaDoor.Leaf
open Go.RowKit Go.Proofs.YtnfgiamdmfkcjaaDoorW.PrintWords Go.Proofs.YtnfgiamdmfkcjaaDoorW.PrintLast Go.Proofs.YtnfgiamdmfkcjaaDoorW.PrintMore
attribute [local go_sem] max2_int min2_int max_two min_two max_three min_three max_four min_four
def matrix_zeros.l0 : Nat → Int → List (List Int) → Int → Int → Option ((List (List Int)))
 | 0, _, _, _, _ => none
 | k + 1, x1, x5, x10, x11 => if x11 < x10 then (if 0 ≤ x1 then (if (x1 : Int).toNat ≤ 281474976710656 then (if 0 ≤ x11 then (if x11 < (x5.length : Int) then (matrix_zeros.l0 k x1 (x5.set (x11 : Int).toNat (List.replicate (x1 : Int).toNat 0)) x10 (wrap64 (x11 + 1))) else (none)) else (none)) else (none)) else (none)) else (some x5)
def matrix_zeros.f (k : Nat) (a0 : Int) (a1 : Int) : Option ((List (List Int))) := if 0 ≤ a0 then (if (a0 : Int).toNat ≤ 11728124029610 then ((some (List.replicate (a0 : Int).toNat [] : List (List Int))).bind fun y101 => (matrix_zeros.l0 k a1 y101 (y101.length : Int) 0)) else (none)) else (none)
theorem matrix_zeros.mono_l : ∀ k, (∀ y0 y1 y2 y3, LeO (matrix_zeros.l0 k y0 y1 y2 y3) (matrix_zeros.l0 (k + 1) y0 y1 y2 y3))
 | 0 => fun _ _ _ _ r h => by simp [matrix_zeros.l0] at h
 | k + 1 => by
  have ih0 := matrix_zeros.mono_l k
  ·intro y0 y1 y2 y3
   unfold matrix_zeros.l0
   repeat' first
   | (with_reducible exact ih0 _ _ _ _)
   | (with_reducible exact LeO.refl _)
   | (with_reducible exact LeO.none _)
   | (with_reducible refine LeO.ite ?_ ?_)
   | (with_reducible refine LeO.bind ?_ (fun _ => ?_))
   | exact ih0 _ _ _ _
   | exact LeO.none _
   | refine LeO.ite ?_ ?_
   | refine LeO.bind ?_ (fun _ => ?_)
theorem matrix_zeros.mono : ∀ a0 a1 k, LeO (matrix_zeros.f k a0 a1) (matrix_zeros.f (k + 1) a0 a1) := by
 intro a0 a1 k
 have ih0 := matrix_zeros.mono_l k
 unfold matrix_zeros.f
 repeat' first
  | (with_reducible exact ih0 _ _ _ _)
  | (with_reducible exact LeO.refl _)
  | (with_reducible exact LeO.none _)
  | (with_reducible refine LeO.ite ?_ ?_)
  | (with_reducible refine LeO.bind ?_ (fun _ => ?_))
  | exact ih0 _ _ _ _
  | exact LeO.none _
  | refine LeO.ite ?_ ?_
  | refine LeO.bind ?_ (fun _ => ?_)
set_option maxHeartbeats 8000000 in
set_option maxRecDepth 100000 in
theorem matrix_zeros.calls (k : Nat) (a0 : Int) (a1 : Int) (r : List (List Int)) (w : World) (h : matrix_zeros.f k a0 a1 = some r) :
 Calls Tryd.prog 88 #[.int .i64 a0, .int .i64 a1] w fun e w' => ∃ v0_ : Value, e = .returned (v0_) ∧ Kd.S (Kd.slice 5 (Kd.int .u8)) 22 w' w.heap.size (fun _ => True) v0_ r ∧ Below w.heap.size w w' := by
 have HB := Aside0.mk (Below.refl w.heap.size w)
 have H : (if 0 ≤ a0 then (if (a0 : Int).toNat ≤ 11728124029610 then ((some (List.replicate (a0 : Int).toNat [] : List (List Int))).bind fun y101 => (matrix_zeros.l0 k a1 y101 (y101.length : Int) 0)) else (none)) else (none)) = some r := h
 clear h
 by_cases c3 : 0 ≤ a0
 ·rw [if_pos c3] at H
  have c3b0 := eq_true c3
  have c3b1 : decide (0 ≤ a0) = true := decide_eq_true c3
  clear c3
  by_cases c4 : (a0 : Int).toNat ≤ 11728124029610
  ·rw [if_pos c4] at H
   have c4b0 := eq_true c4
   have c4b1 : decide ((a0 : Int).toNat ≤ 11728124029610) = true := decide_eq_true c4
   clear c4
   obtain ⟨y101, hy101⟩ : ∃ y_ : List (List Int), y_ = (List.replicate (a0 : Int).toNat []) := ⟨_, rfl⟩
   replace H : (matrix_zeros.l0 k a1 y101 (y101.length : Int) 0) = some r := by first | (rw [hy101]; with_reducible exact H) | (have H2_ := (Option.bind_some _ _).symm.trans H; rw [hy101]; with_reducible exact H2_) | (have H2_ := (Option.bind_some _ _).symm.trans H; with_reducible exact H2_) | with_reducible exact H | (rw [hy101]; exact H) | exact H
   have Ny101 := Aside0.mk hy101
   clear hy101
   have H' := Aside0.mk H
   clear H
   go_enter Tryd.func88, Tryd.ntmps88
   go_wp2_with (first | ((with_reducible refine gate_dst (N := 8) rfl ?_); refine Kd.S_make (Kd.slice 5 (Kd.int .u8)) _ 22 rfl (N := 8) rfl 26 _ _ rfl a0 rfl rfl Tryd.underlying26 (.slice none 0 0) 24 info22 rfl (by decide) (by omega) [] (ok := fun _ => True) (okp := fun _ => True) ⟨_, rfl, Kd.R_nil _ _ _ _ _⟩ (fun _ hk => hk) trivial (of_decide_eq_true (by first | (with_reducible assumption) | assumption)) (Nat.le_trans (Nat.mul_le_mul_right _ (of_decide_eq_true (by first | (with_reducible assumption) | assumption) : a0.toNat ≤ 11728124029610)) (by omega)) (Below.refl _ _) (Nat.le_refl _) ?_; intro v102 w5 ho6 hb hg_ hnew_; clear hg_ hnew_; (first | rw [← Ny101.out] at ho6 | (simp only [Int.reduceToNat] at ho6; rw [← Ny101.out] at ho6)); have n0_ := Aside0.mk (Kd.S_lower ho6 (zF_ (by repeat (first | (with_reducible first | exact HB.out | apply zC_ | apply zA_ | apply zB_) | exact HB.out)))); have n1_ := Aside0.mk (zE_ (by repeat (first | (with_reducible first | exact HB.out | apply zC_ | apply zA_ | apply zB_) | exact HB.out)) hb); clear HB; have HO103 := n0_; have HB := n1_; clear n0_ n1_; clear hb ho6; obtain ⟨Ao7, co7, eo7⟩ := Kd.S_slice HO103.out; subst eo7))
   go_loopg [11] k (fun kq v11 w' => ∃ (x5_1 : List (List Int)) (x11_1 : Int), v11 = .int .i64 x11_1 ∧ Aside0 (matrix_zeros.l0 kq a1 x5_1 (y101.length : Int) x11_1 = some r) ∧ Aside0 (kq ≤ k) ∧ Aside0 (Kd.S (Kd.slice 5 (Kd.int .u8)) 22 w' w.heap.size (fun _ => True) (.slice Ao7 y101.length co7) x5_1) ∧ Aside0 (Below w.heap.size w w'))
   case atStart => exact ⟨(y101), (0), (by first | rfl | (simp; done) | (simp [*]; done)), H', ⟨Nat.le_refl _⟩, ⟨by (with_reducible repeat (first | apply Kd.S_alloc | apply Kd.S_drewN | apply Kd.S_drew)); exact HO103.out⟩, ⟨by repeat (first | (with_reducible first | exact HB.out | apply zC_ | apply zA_ | apply zB_) | exact HB.out)⟩⟩
   case round =>
    clear H'
    try clear p2
    try clear c3
    try clear c3b0
    try clear c3b1
    try clear c4
    try clear c4b0
    try clear c4b1
    obtain ⟨x5_1, x11_1, rfl, HA, HK1, HO_5, HB⟩ := hrel
    have hl5_1 := (Kd.S_reads' HO_5.out).1
    rw [hl5_1] at HO_5
    (try simp only [hl5_1])
    cases gk with
    | zero => exact absurd HA.out (by simp [matrix_zeros.l0])
    | succ k1 =>
     have H := HA.out
     clear HA
     simp only [matrix_zeros.l0] at H
     by_cases c8 : x11_1 < (y101.length : Int)
     ·rw [if_pos c8] at H
      have c8b0 : decide (x11_1 < (y101.length : Int)) = true := decide_eq_true c8
      (try simp only [hl5_1] at c8b0)
      clear c8
      by_cases c9 : 0 ≤ a1
      ·rw [if_pos c9] at H
       have c9b0 := eq_true c9
       (try simp only [hl5_1] at c9b0)
       have c9b1 : decide (0 ≤ a1) = true := decide_eq_true c9
       (try simp only [hl5_1] at c9b1)
       clear c9
       by_cases c10 : (a1 : Int).toNat ≤ 281474976710656
       ·rw [if_pos c10] at H
        have c10b0 := eq_true c10
        (try simp only [hl5_1] at c10b0)
        have c10b1 : decide ((a1 : Int).toNat ≤ 281474976710656) = true := decide_eq_true c10
        (try simp only [hl5_1] at c10b1)
        clear c10
        obtain ⟨y104, hy104⟩ : ∃ y_ : List Int, y_ = (List.replicate (a1 : Int).toNat 0) := ⟨_, rfl⟩
        replace H : (if 0 ≤ x11_1 then (if x11_1 < (x5_1.length : Int) then (matrix_zeros.l0 k1 a1 (x5_1.set (x11_1 : Int).toNat y104) (y101.length : Int) (wrap64 (x11_1 + 1))) else (none)) else (none)) = some r := by first | (rw [hy104]; with_reducible exact H) | (have H2_ := (Option.bind_some _ _).symm.trans H; rw [hy104]; with_reducible exact H2_) | (have H2_ := (Option.bind_some _ _).symm.trans H; with_reducible exact H2_) | with_reducible exact H | (rw [hy104]; exact H) | exact H
        have Ny104 := Aside0.mk hy104
        clear hy104
        by_cases c11 : 0 ≤ x11_1
        ·rw [if_pos c11] at H
         have c11b0 : decide (0 ≤ x11_1) = true := decide_eq_true c11
         (try simp only [hl5_1] at c11b0)
         clear c11
         by_cases c12 : x11_1 < (x5_1.length : Int)
         ·rw [if_pos c12] at H
          have c12b0 : decide (x11_1 < (x5_1.length : Int)) = true := decide_eq_true c12
          (try simp only [hl5_1] at c12b0)
          clear c12
          obtain ⟨y107, hy107⟩ : ∃ y_ : List (List Int), y_ = (x5_1.set (x11_1 : Int).toNat y104) := ⟨_, rfl⟩
          replace H : (matrix_zeros.l0 k1 a1 y107 (y101.length : Int) (wrap64 (x11_1 + 1))) = some r := by first | (rw [hy107]; with_reducible exact H) | (have H2_ := (Option.bind_some _ _).symm.trans H; rw [hy107]; with_reducible exact H2_) | (have H2_ := (Option.bind_some _ _).symm.trans H; with_reducible exact H2_) | with_reducible exact H | (rw [hy107]; exact H) | exact H
          have Ny107 := Aside0.mk hy107
          clear hy107
          have H' := Aside0.mk H
          clear H
          go_wp2_with (first | ((with_reducible refine gate_dst (N := 17) rfl ?_); refine Kd.R_make (Kd.int .u8) _ 5 rfl (N := 17) rfl 22 _ _ rfl a1 rfl rfl Tryd.underlying22 (.int .u8 0) 1 info5 rfl (by decide) (by omega) 0 (ok := fun _ => True) (okp := fun _ => True) rfl (fun _ hk => hk) trivial (of_decide_eq_true (by first | (with_reducible assumption) | assumption)) (Nat.le_trans (Nat.mul_le_mul_right _ (of_decide_eq_true (by first | (with_reducible assumption) | assumption) : a1.toNat ≤ 281474976710656)) (by omega)) (Below.refl _ _) (Nat.le_refl _) ?_; intro v105 w14 ho15 hb hg_ hnew_; clear hg_ hnew_; (first | rw [← Ny104.out] at ho15 | (simp only [Int.reduceToNat] at ho15; rw [← Ny104.out] at ho15)); have n0_ := Aside0.mk (Kd.S_elder' (by (with_reducible repeat (first | apply Kd.S_alloc | apply Kd.S_drewN | apply Kd.S_drew)); exact HO_5.out) (Kd.R_base ho15) hb); have n1_ := Aside0.mk (Kd.R_lower ho15 (zF_ (by repeat (first | (with_reducible first | exact HB.out | apply zC_ | apply zA_ | apply zB_) | exact HB.out)))); have n2_ := Aside0.mk (zE_ (by repeat (first | (with_reducible first | exact HB.out | apply zC_ | apply zA_ | apply zB_) | exact HB.out)) hb); clear HO_5; clear HB; have HO_5 := n0_; have HO106 := n1_; have HB := n2_; clear n0_ n1_ n2_; clear hb ho15; have p13 : 0 ≤ (x11_1 : Int) := of_decide_eq_true (by first | (with_reducible assumption) | assumption); have q13 : (x11_1 : Int) < ((x5_1.length : Int) : Int) := of_decide_eq_true (by first | (with_reducible assumption) | assumption); obtain ⟨go13, co13, eo13, gb13, gl13, cl13, HG13⟩ := Kd.S_form HO_5.out (by omega); (first | cases eo13 | (injection eo13 with ea_ en_ ec_; (first | subst ea_ | (injection ea_ with ea_; subst ea_)); subst ec_; clear en_)); have GB13 := Aside0.mk gb13; have GG13 := Aside0.mk HG13; clear gb13 gl13 HG13; obtain ⟨_, ce13, hcl13, hM13, hcc13, hfr13, _, _⟩ := Kd.S_elem HO_5.out [] (x11_1 : Int) p13 q13; obtain ⟨ve13_0, rfl, ge13_0⟩ := hM13; have hx13_0 := hcc13 0 _ rfl; have hf13_0 := hfr13 0; (try simp only [show ((Kd.slice 5 (Kd.int .u8))).sz = 1 from rfl, Nat.mul_one, Nat.add_zero] at hx13_0); (try simp only [show ((Kd.slice 5 (Kd.int .u8))).sz = 1 from rfl, Nat.mul_one, Nat.add_zero] at hf13_0); (try clear hcl13); (try clear hcc13); (try clear hfr13); (try clear hM13); replace p13 := eq_true p13; replace q13 := eq_true q13; have n_ := Aside0.mk (Kd.S_mono (ok' := (fun k_ => some k_ ≠ (v105 : Value).ownBlock)) HO_5.out (fun k_ hk => hk.2)); clear HO_5; have HO_5 := n_; clear n_; have HX16 := Aside0.mk (show Kd.S (Kd.slice 5 (Kd.int .u8)) 22 w14 w.heap.size (fun k_ => ((fun _ => True)) k_ ∧ ¬ ((fun k_ => some k_ = (v105 : Value).ownBlock)) k_) (.slice (some ⟨go13, 0, none⟩) x5_1.length co7) x5_1 from (by (with_reducible repeat (first | apply Kd.S_alloc | apply Kd.S_drewN | apply Kd.S_drew)); exact Kd.S_mono HO_5.out (fun k_ hk => ⟨trivial, fun e_ => hk e_⟩))); obtain ⟨oki16, ce16, hcl16, hM16, hcc16, hfr16, hoki16, hH16⟩ := Kd.S_elem HX16.out [] (x11_1 : Int) (of_decide_eq_true (by first | (with_reducible assumption) | assumption)) (by have h_ : (x11_1 : Int) < ((x5_1.length : Int) : Int) := of_decide_eq_true (by first | (with_reducible assumption) | assumption); first | exact h_ | (have e_ := (Kd.S_reads' HO_5.out).1; omega) | simpa using h_); obtain ⟨ve16_0, rfl, ge16_0⟩ := hM16; obtain ⟨Av16_, cv16_, ev16_⟩ := Kd.R_slice HO106.out; subst ev16_; have HP16 := Kd.S_seg hH16 (of_decide_eq_true (by first | (with_reducible assumption) | assumption)) (by have h_ : (x11_1 : Int) < ((x5_1.length : Int) : Int) := of_decide_eq_true (by first | (with_reducible assumption) | assumption); first | exact h_ | (have e_ := (Kd.S_reads' HO_5.out).1; omega) | simpa using h_) (seg := [(.slice Av16_ y104.length cv16_)]) (j := 0) (show 1 ≤ 1 from by decide) (x' := y104) (Kd.M_row (Kd.R_mono (Kd.R_tight rfl (Kd.R_mono (ok' := fun k_ => ((fun _ => True)) k_ ∧ k_ ≠ go13) (Kd.R_apart' (HO106.out) (Kd.S_typed HO_5.out) (by decide)) (fun k_ hk => ⟨trivial, fun e_ => (hk.2) (by rw [e_]; rfl)⟩))) (fun _ h_ => Or.inr (h_)))) (fun _ hk => hk) (fun k_ hk_ => ((Kd.R_mono (ok' := fun k_ => ((fun _ => True)) k_ ∧ k_ ≠ go13) (Kd.R_apart' (HO106.out) (Kd.S_typed HO_5.out) (by decide)) (fun k_ hk => ⟨trivial, fun e_ => (hk.2) (by rw [e_]; rfl)⟩))).1 k_ hk_.symm); have hx16_0 := hcc16 0 _ rfl; (try simp only [show ((Kd.slice 5 (Kd.int .u8))).sz = 1 from rfl, Nat.mul_one, Nat.add_zero] at hx16_0); have hf16_0 := hfr16 0; (try simp only [show ((Kd.slice 5 (Kd.int .u8))).sz = 1 from rfl, Nat.mul_one, Nat.add_zero] at hf16_0); (try clear hcl16); (try clear hcc16); (try clear hfr16); (try clear hM16); (try clear hoki16); (try clear hH16); (try simp only [show ((Kd.slice 5 (Kd.int .u8))).sz = 1 from rfl, Nat.mul_one, Nat.add_zero] at HP16)) | ((with_reducible refine gate_store (t := 22) (p := 18) rfl ?_); refine store_event (t := 22) (p := 18) (v := ?vo_w17) (w1 := (w14.setCell ⟨go13, (x11_1 : Int).toNat, none⟩ ((.slice Av16_ y104.length cv16_)))) ?hg ?ho ?hn ?hr ?_; (case ho => rfl); (case hg => rfl); (case hn => rfl); (case hr => first | (go_simp; done) | (go_simp; rfl)); intro w17 hw; have hg : w14.grownBy w17 (some go13) := (by rw [hw]; exact HP16.2); have hp_ : Kd.S (Kd.slice 5 (Kd.int .u8)) 22 w17 w.heap.size (fun _ => True) (.slice (some ⟨go13, 0, none⟩) x5_1.length co7) y107 := (by rw [hw, Ny107.out]; exact HP16.1); clear HP16; have n0_ := Aside0.mk (hp_); have n1_ := Aside0.mk ((by rw [hw]; exact below_set (HB.out) GB13.out : Below w.heap.size w w17)); clear HO_5; clear HB; clear HO106; have HO_5 := n0_; have HB := n1_; clear n0_ n1_; clear hg hw hp_))
          (try simp only [← hl5_1])
          go_roundg k1
          case measure => have := HK1.out; omega
          case rel => exact ⟨(y107), (wrap64 (x11_1 + 1)), (by first | rfl | (simp; done) | (simp [*]; done)), H', ⟨by have := HK1.out; omega⟩, ⟨by (try simp only [hl5_1]); (with_reducible repeat (first | apply Kd.S_alloc | apply Kd.S_drewN | apply Kd.S_drew)); exact HO_5.out⟩, ⟨by repeat (first | (with_reducible first | exact HB.out | apply zC_ | apply zA_ | apply zB_) | exact HB.out)⟩⟩
         ·rw [if_neg c12] at H
          exact absurd H (by simp)
        ·rw [if_neg c11] at H
         exact absurd H (by simp)
       ·rw [if_neg c10] at H
        exact absurd H (by simp)
      ·rw [if_neg c9] at H
       exact absurd H (by simp)
     ·rw [if_neg c8] at H
      have c8b0 : decide (x11_1 < (y101.length : Int)) = false := decide_eq_false c8
      (try simp only [hl5_1] at c8b0)
      clear c8
      obtain rfl := Option.some.inj H
      go_wp2
      go_ret
      exact ⟨_, by first | rfl | (simp [errW_none, errW_some] <;> rfl) | (simp [*, errW_none, errW_some] <;> rfl), by (with_reducible repeat (first | apply Kd.S_alloc | apply Kd.S_drewN | apply Kd.S_drew)); exact HO_5.out, by repeat (first | (with_reducible first | exact HB.out | apply zC_ | apply zA_ | apply zB_) | exact HB.out)⟩
  ·rw [if_neg c4] at H
   exact absurd H (by simp)
 ·rw [if_neg c3] at H
  exact absurd H (by simp)
mutual
def wMi_.j0 : Nat → Int → Bool → Option ((List (List Int)) × Int)
 | 0, _, _ => none
 | k + 1, x0, x11 => if x11 = true then (some (([] : List (List Int)), 1)) else ((matrix_zeros.f k x0 x0).bind fun t101 => (wMi_.l0 k t101 (t101.length : Int) 0))
def wMi_.l0 : Nat → List (List Int) → Int → Int → Option ((List (List Int)) × Int)
 | 0, _, _, _ => none
 | k + 1, x4, x16, x17 => if x17 < x16 then (if 0 ≤ x17 then (if x17 < (x4.length : Int) then (if x17 < ((rd_L1 x4 x17).length : Int) then (wMi_.l0 k (x4.set (x17 : Int).toNat ((rd_L1 x4 x17).set (x17 : Int).toNat 1)) x16 (wrap64 (x17 + 1))) else (none)) else (none)) else (none)) else (some (x4, 0))
end
def wMi_.f (k : Nat) (a0 : Int) : Option ((List (List Int)) × Int) := if a0 < 1 then (wMi_.j0 k a0 true) else (wMi_.j0 k a0 (decide (a0 > 255)))
theorem wMi_.mono_l : ∀ k, (∀ y0 y1, LeO (wMi_.j0 k y0 y1) (wMi_.j0 (k + 1) y0 y1)) ∧ (∀ y0 y1 y2, LeO (wMi_.l0 k y0 y1 y2) (wMi_.l0 (k + 1) y0 y1 y2))
 | 0 => ⟨fun _ _ r h => by simp [wMi_.j0] at h, fun _ _ _ r h => by simp [wMi_.l0] at h⟩
 | k + 1 => by
  obtain ⟨ih0, ih1⟩ := wMi_.mono_l k
  refine ⟨?_, ?_⟩
  ·intro y0 y1
   unfold wMi_.j0
   repeat' first
   | (with_reducible exact ih0 _ _)
   | (with_reducible exact ih1 _ _ _)
   | (with_reducible exact matrix_zeros.mono _ _ _)
   | (with_reducible exact LeO.refl _)
   | (with_reducible exact LeO.none _)
   | (with_reducible refine LeO.ite ?_ ?_)
   | (with_reducible refine LeO.bind ?_ (fun _ => ?_))
   | exact ih0 _ _
   | exact ih1 _ _ _
   | exact matrix_zeros.mono _ _ _
   | exact LeO.none _
   | refine LeO.ite ?_ ?_
   | refine LeO.bind ?_ (fun _ => ?_)
  ·intro y0 y1 y2
   unfold wMi_.l0
   repeat' first
   | (with_reducible exact ih0 _ _)
   | (with_reducible exact ih1 _ _ _)
   | (with_reducible exact matrix_zeros.mono _ _ _)
   | (with_reducible exact LeO.refl _)
   | (with_reducible exact LeO.none _)
   | (with_reducible refine LeO.ite ?_ ?_)
   | (with_reducible refine LeO.bind ?_ (fun _ => ?_))
   | exact ih0 _ _
   | exact ih1 _ _ _
   | exact matrix_zeros.mono _ _ _
   | exact LeO.none _
   | refine LeO.ite ?_ ?_
   | refine LeO.bind ?_ (fun _ => ?_)
theorem wMi_.mono : ∀ a0 k, LeO (wMi_.f k a0) (wMi_.f (k + 1) a0) := by
 intro a0 k
 obtain ⟨ih0, ih1⟩ := wMi_.mono_l k
 unfold wMi_.f
 repeat' first
  | (with_reducible exact ih0 _ _)
  | (with_reducible exact ih1 _ _ _)
  | (with_reducible exact matrix_zeros.mono _ _ _)
  | (with_reducible exact LeO.refl _)
  | (with_reducible exact LeO.none _)
  | (with_reducible refine LeO.ite ?_ ?_)
  | (with_reducible refine LeO.bind ?_ (fun _ => ?_))
  | exact ih0 _ _
  | exact ih1 _ _ _
  | exact matrix_zeros.mono _ _ _
  | exact LeO.none _
  | refine LeO.ite ?_ ?_
  | refine LeO.bind ?_ (fun _ => ?_)
set_option maxHeartbeats 8000000 in
set_option maxRecDepth 100000 in
theorem wMi_.calls (k : Nat) (a0 : Int) (r1 : List (List Int)) (r2 : Int) (w : World) (h : wMi_.f k a0 = some (r1, r2)) :
 Calls Tryd.prog 63 #[.int .i64 a0] w fun e w' => ∃ v0_ : Value, e = .returned (.tuple #[v0_, .int .i64 r2]) ∧ Kd.S (Kd.slice 5 (Kd.int .u8)) 22 w' w.heap.size (fun _ => True) v0_ r1 ∧ Below w.heap.size w w' := by
 have HB := Aside0.mk (Below.refl w.heap.size w)
 have H : (if a0 < 1 then (wMi_.j0 k a0 true) else (wMi_.j0 k a0 (decide (a0 > 255)))) = some (r1, r2) := h
 clear h
 have HC2 := Aside0.mk H
 clear H
 go_enter Tryd.func63, Tryd.ntmps63
 go_upto_region 1 with (fail)
 go_cut [11] (fun v11 wc => ∃ (kq : Nat) (x11_1 : Bool), v11 = .bool x11_1 ∧ Aside0 (wMi_.j0 kq a0 x11_1 = some (r1, r2)) ∧ Aside0 (kq ≤ k) ∧ Aside0 (Below w.heap.size w wc))
 case first =>
  have H := HC2.out
  clear HC2
  by_cases c3 : a0 < 1
  ·rw [if_pos c3] at H
   have c3b0 : decide (a0 < 1) = true := decide_eq_true c3
   clear c3
   (first | rw [c3b0] | (simp only [i64_w, i32_w]; rw [c3b0]) | skip)
   have H' := Aside0.mk H
   clear H
   go_wp2
   go_meet
   case rel => exact ⟨_, (true), (by first | rfl | (simp; done) | (simp [*]; done)), H', ⟨by first | omega | exact Nat.le_refl _⟩, ⟨by repeat (first | (with_reducible first | exact HB.out | apply zC_ | apply zA_ | apply zB_) | exact HB.out)⟩⟩
  ·rw [if_neg c3] at H
   have c3b0 : decide (a0 < 1) = false := decide_eq_false c3
   clear c3
   (first | rw [c3b0] | (simp only [i64_w, i32_w]; rw [c3b0]) | skip)
   have H' := Aside0.mk H
   clear H
   go_wp2
   go_meet
   case rel => exact ⟨_, (decide (a0 > 255)), (by first | rfl | (simp; done) | (simp [*]; done)), H', ⟨by first | omega | exact Nat.le_refl _⟩, ⟨by repeat (first | (with_reducible first | exact HB.out | apply zC_ | apply zA_ | apply zB_) | exact HB.out)⟩⟩
 case rest =>
  clear HC2
  try clear p2
  try clear c3
  try clear c3b0
  obtain ⟨kq, x11_1, rfl, HA, HJ1, HB⟩ := hcut
  cases kq with
  | zero => exact absurd HA.out (by simp [wMi_.j0])
  | succ kj1 =>
   have H := HA.out
   clear HA
   simp only [wMi_.j0] at H
   by_cases c4 : x11_1 = true
   ·subst c4
    have H1 : (some (([] : List (List Int)), 1)) = some (r1, r2) := by rw [if_pos rfl] at H; exact H
    clear H
    have H := H1
    clear H1
    simp only [Option.some.injEq, Prod.mk.injEq] at H
    obtain ⟨rfl, rfl⟩ := H
    go_wp2
    go_ret2
    exact ⟨_, by first | rfl | (simp [errW_none, errW_some] <;> rfl) | (simp [*, errW_none, errW_some] <;> rfl), by first | exact Kd.S_nil _ _ _ _ _ | exact Kd.N_nil _ _ _ _ _ | exact Kd.V_nil _ _ _ _ _ | exact Kd.Q_nil _ _ _ _ _ | exact Kd.R_nil _ _ _ _ _, by repeat (first | (with_reducible first | exact HB.out | apply zC_ | apply zA_ | apply zB_) | exact HB.out)⟩
   ·replace c4 := Bool.eq_false_iff.mpr c4
    subst c4
    have H1 : ((matrix_zeros.f kj1 a0 a0).bind fun t101 => (wMi_.l0 kj1 t101 (t101.length : Int) 0)) = some (r1, r2) := by rw [if_neg (show ¬ (false = true) by decide)] at H; exact H
    clear H
    have H := H1
    clear H1
    replace H := Option.bind_eq_some_iff.mp H
    obtain ⟨t101, A50, H⟩ := H
    replace H : (wMi_.l0 kj1 t101 (t101.length : Int) 0) = some (r1, r2) := H
    have A5 := Aside0.mk A50
    clear A50
    have H' := Aside0.mk H
    clear H
    go_wp2_with (first | ((with_reducible refine gate_callee (f := 88) rfl ?_); refine goesL_ (some 14) rfl rfl Tryd.func88 (by kernel_rfl) rfl #[.int .i64 a0, .int .i64 a0] rfl (by (try simp only [List.map_toArray, List.map_cons, List.map_nil]); first | done | rfl | (simp only [List.length_drop, List.length_take]; rfl)) ?_; (with_reducible refine (matrix_zeros.calls kj1 a0 a0 t101 _ A5.out).mono ?_); rintro e w6 ⟨v102, rfl, ho0, hb⟩; refine ⟨_, rfl, ?_⟩; have n0_ := Aside0.mk (Kd.S_lower ho0 (zF_ (by repeat (first | (with_reducible first | exact HB.out | apply zC_ | apply zA_ | apply zB_) | exact HB.out)))); have n1_ := Aside0.mk (zE_ (by repeat (first | (with_reducible first | exact HB.out | apply zC_ | apply zA_ | apply zB_) | exact HB.out)) hb); clear HB; have HO103 := n0_; have HB := n1_; clear n0_ n1_; (try clear hb); (try clear hb2); (try clear hk); (try clear hi); (try clear ho0); obtain ⟨Ao7, co7, eo7⟩ := Kd.S_slice HO103.out; subst eo7))
    go_loopg [17] kj1 (fun kq v17 w' => ∃ (x4_2 : List (List Int)) (x17_2 : Int), v17 = .int .i64 x17_2 ∧ Aside0 (wMi_.l0 kq x4_2 (t101.length : Int) x17_2 = some (r1, r2)) ∧ Aside0 (kq ≤ kj1) ∧ Aside0 (Kd.S (Kd.slice 5 (Kd.int .u8)) 22 w' w.heap.size (fun _ => True) (.slice Ao7 t101.length co7) x4_2) ∧ Aside0 (Below w.heap.size w w'))
    case atStart => exact ⟨(t101), (0), (by first | rfl | (simp; done) | (simp [*]; done)), H', ⟨Nat.le_refl _⟩, ⟨by (with_reducible repeat (first | apply Kd.S_alloc | apply Kd.S_drewN | apply Kd.S_drew)); exact HO103.out⟩, ⟨by repeat (first | (with_reducible first | exact HB.out | apply zC_ | apply zA_ | apply zB_) | exact HB.out)⟩⟩
    case round =>
     clear H'
     try clear p2
     try clear c3
     try clear c3b0
     try clear c4
     try clear c6
     try clear p2
     obtain ⟨x4_2, x17_2, rfl, HA, HK2, HO_4, HB⟩ := hrel
     have hl4_2 := (Kd.S_reads' HO_4.out).1
     rw [hl4_2] at HO_4
     (try simp only [hl4_2])
     cases gk with
     | zero => exact absurd HA.out (by simp [wMi_.l0])
     | succ k2 =>
      have H := HA.out
      clear HA
      simp only [wMi_.l0] at H
      by_cases c8 : x17_2 < (t101.length : Int)
      ·rw [if_pos c8] at H
       have c8b0 : decide (x17_2 < (t101.length : Int)) = true := decide_eq_true c8
       (try simp only [hl4_2] at c8b0)
       clear c8
       by_cases c9 : 0 ≤ x17_2
       ·rw [if_pos c9] at H
        have c9b0 : decide (0 ≤ x17_2) = true := decide_eq_true c9
        (try simp only [hl4_2] at c9b0)
        clear c9
        by_cases c10 : x17_2 < (x4_2.length : Int)
        ·rw [if_pos c10] at H
         have c10b0 : decide (x17_2 < (x4_2.length : Int)) = true := decide_eq_true c10
         (try simp only [hl4_2] at c10b0)
         clear c10
         by_cases c11 : x17_2 < ((rd_L1 x4_2 x17_2).length : Int)
         ·rw [if_pos c11] at H
          have c11b0 : decide (x17_2 < ((rd_L1 x4_2 x17_2).length : Int)) = true := decide_eq_true c11
          (try simp only [hl4_2] at c11b0)
          clear c11
          obtain ⟨y105, hy105⟩ : ∃ y_ : List Int, y_ = ((rd_L1 x4_2 x17_2).set (x17_2 : Int).toNat 1) := ⟨_, rfl⟩
          replace H : (wMi_.l0 k2 (x4_2.set (x17_2 : Int).toNat y105) (t101.length : Int) (wrap64 (x17_2 + 1))) = some (r1, r2) := by first | (rw [hy105]; with_reducible exact H) | (have H2_ := (Option.bind_some _ _).symm.trans H; rw [hy105]; with_reducible exact H2_) | (have H2_ := (Option.bind_some _ _).symm.trans H; with_reducible exact H2_) | with_reducible exact H | (rw [hy105]; exact H) | exact H
          have Ny105 := Aside0.mk hy105
          clear hy105
          obtain ⟨y107, hy107⟩ : ∃ y_ : List (List Int), y_ = (x4_2.set (x17_2 : Int).toNat y105) := ⟨_, rfl⟩
          replace H : (wMi_.l0 k2 y107 (t101.length : Int) (wrap64 (x17_2 + 1))) = some (r1, r2) := by first | (rw [hy107]; with_reducible exact H) | (have H2_ := (Option.bind_some _ _).symm.trans H; rw [hy107]; with_reducible exact H2_) | (have H2_ := (Option.bind_some _ _).symm.trans H; with_reducible exact H2_) | with_reducible exact H | (rw [hy107]; exact H) | exact H
          have Ny107 := Aside0.mk hy107
          clear hy107
          have H' := Aside0.mk H
          clear H
          have p104 : 0 ≤ (x17_2 : Int) := of_decide_eq_true (by first | (with_reducible assumption) | assumption)
          have q104 : x17_2 < (x4_2.length : Int) := of_decide_eq_true (by first | (with_reducible assumption) | assumption)
          obtain ⟨ad104, A104_0, c104_0, e104, hx104_0, hl104_0, hi104_0⟩ := at_L1 (Kd.S_reads' HO_4.out).2.2 x17_2 p104 q104
          cases e104
          obtain ⟨ce104, hce104, hMe104, hcc104⟩ := Kd.S_get HO_4.out [] x17_2 p104 (by first | exact q104 | exact of_decide_eq_true (by first | (with_reducible assumption) | assumption) | (have e_ := (Kd.S_reads' HO_4.out).1; omega))
          obtain ⟨ve104_0, rfl, ge104_0⟩ := hMe104
          have hv104_0 := hcc104 0 _ rfl
          rw [Nat.add_zero, show ((Kd.slice 5 (Kd.int .u8))).sz = 1 from rfl, Nat.mul_one] at hv104_0
          replace hv104_0 := Option.some.inj (hv104_0.symm.trans hx104_0)
          rw [hv104_0] at ge104_0
          have HL104_0 := Aside0.mk (show Kd.R (Kd.int .u8) 5 _ _ _ _ (rd_L1 x4_2 x17_2) from ge104_0)
          clear hv104_0 ge104_0
          have HX104_0 := Aside0.mk hx104_0
          clear hcc104 hce104
          have HR104_0 := Aside0.mk hi104_0
          have HC104_0 := Aside0.mk hl104_0
          clear hi104_0 hl104_0
          replace p104 := eq_true p104
          replace q104 := eq_true q104
          have p12 : 0 ≤ (x17_2 : Int) := of_decide_eq_true (by first | (with_reducible assumption) | assumption)
          have q12 : (x17_2 : Int) < (((rd_L1 x4_2 x17_2).length : Int) : Int) := of_decide_eq_true (by first | (with_reducible assumption) | assumption)
          obtain ⟨go12, co12, eo12, gb12, gl12, cl12, HG12⟩ := Kd.R_form HL104_0.out (by omega)
          (first | cases eo12 | (injection eo12 with ea_ en_ ec_; (first | subst ea_ | (injection ea_ with ea_; subst ea_)); subst ec_; clear en_))
          have GB12 := Aside0.mk gb12
          have GG12 := Aside0.mk HG12
          clear gb12 gl12 HG12
          obtain ⟨hx12_0, hf12_0⟩ := Kd.R_celln 0 HL104_0.out (x17_2 : Int) p12 q12
          replace p12 := eq_true p12
          replace q12 := eq_true q12
          have hq13 : (x17_2 : Int) < (x4_2.length : Int) := (by have h_ : (x17_2 : Int) < ((x4_2.length : Int) : Int) := of_decide_eq_true (by first | (with_reducible assumption) | assumption); first | exact h_ | (have e_ := (Kd.S_reads' HO_4.out).1; omega) | simpa only [List.length_set, List.length_set] using h_)
          obtain ⟨oki13, ce13, hcl13, hM13, hcc13, hok13, hbk13⟩ := Kd.S_borrow HO_4.out [] (x17_2 : Int) (of_decide_eq_true (by first | (with_reducible assumption) | assumption)) hq13
          obtain ⟨ve13_0, rfl, ge13_0⟩ := hM13
          have hv13 := hcc13 0 _ rfl
          rw [Nat.add_zero, show ((Kd.slice 5 (Kd.int .u8))).sz = 1 from rfl, Nat.mul_one] at hv13
          replace hv13 := Option.some.inj (hv13.symm.trans HX104_0.out)
          subst hv13
          clear hcc13 hcl13
          replace ge13_0 := (show Kd.R (Kd.int .u8) 5 _ _ _ _ (rd_L1 x4_2 x17_2) from ge13_0)
          have HP13 := Kd.R_putg ge13_0 (x17_2 : Int) 1
          go_wp2_with (first | ((with_reducible refine gate_store (t := 5) (p := 25) rfl ?_); refine store_event (t := 5) (p := 25) (v := ?vo_w14) (w1 := (wr.setCell ⟨go12, (x17_2 : Int).toNat, none⟩ (.int .u8 1))) ?hg ?ho ?hn ?hr ?_; (case ho => rfl); (case hg => rfl); (case hn => rfl); (case hr => first | (go_simp; done) | (go_simp; rfl)); intro w14 hw; have hg : wr.grownBy w14 (some go12) := (by rw [hw]; exact HP13.2); have hz_ : Kd.R (Kd.int .u8) 5 w14 w.heap.size oki13 (.slice (some ⟨go12, 0, none⟩) (rd_L1 x4_2 x17_2).length c104_0) y105 := (by rw [hw, Ny105.out]; exact HP13.1); have hp_ : Kd.S (Kd.slice 5 (Kd.int .u8)) 22 w14 w.heap.size (fun _ => True) (.slice (some ad104) x4_2.length co7) y107 := (by rw [Ny107.out]; exact hbk13 hg (fun k_ e_ => by injection e_ with e_; subst e_; exact ge13_0.1 _ rfl) (Kd.M_row hz_)); have hm_ := Kd.R_mono hz_ hok13; clear HP13 hbk13; have n0_ := Aside0.mk (hp_); have n1_ := Aside0.mk ((by rw [hw]; exact below_set (HB.out) GB12.out : Below w.heap.size w w14)); have n2_ := Aside0.mk (hm_); have n3_ := Aside0.mk ((Kd.R_reads' hm_).2.1); clear HO_4; clear HB; clear HL104_0; have HO_4 := n0_; have HB := n1_; have HL108 := n2_; have HC106 := n3_; clear n0_ n1_ n2_ n3_; clear hg hw hp_ hz_ hm_ hok13))
          (try simp only [← hl4_2])
          go_roundg k2
          case measure => have := HJ1.out; have := HK2.out; omega
          case rel => exact ⟨(y107), (wrap64 (x17_2 + 1)), (by first | rfl | (simp; done) | (simp [*]; done)), H', ⟨by have := HJ1.out; have := HK2.out; omega⟩, ⟨by (try simp only [hl4_2]); (with_reducible repeat (first | apply Kd.S_alloc | apply Kd.S_drewN | apply Kd.S_drew)); exact HO_4.out⟩, ⟨by repeat (first | (with_reducible first | exact HB.out | apply zC_ | apply zA_ | apply zB_) | exact HB.out)⟩⟩
         ·rw [if_neg c11] at H
          exact absurd H (by simp)
        ·rw [if_neg c10] at H
         exact absurd H (by simp)
       ·rw [if_neg c9] at H
        exact absurd H (by simp)
      ·rw [if_neg c8] at H
       have c8b0 : decide (x17_2 < (t101.length : Int)) = false := decide_eq_false c8
       (try simp only [hl4_2] at c8b0)
       clear c8
       simp only [Option.some.injEq, Prod.mk.injEq] at H
       obtain ⟨rfl, rfl⟩ := H
       go_wp2
       go_ret2
       exact ⟨_, by first | rfl | (simp [errW_none, errW_some] <;> rfl) | (simp [*, errW_none, errW_some] <;> rfl), by (with_reducible repeat (first | apply Kd.S_alloc | apply Kd.S_drewN | apply Kd.S_drew)); exact HO_4.out, by repeat (first | (with_reducible first | exact HB.out | apply zC_ | apply zA_ | apply zB_) | exact HB.out)⟩
end Go.Proofs.YtnfgiamdmfkcjaaDoor.P
