/- Words and walks that the claim RebuildChunks leans on (what it does not use is left out). -/
import Derived.Test.YtnfgiamdmfkcjaaDoorMRebuildChunks5
import Derived.Test.YtnfgiamdmfkcjaaDoorMRebuildChunks6
import Derived.Test.YtnfgiamdmfkcjaaDoorMRebuildChunks7
import Derived.Test.YtnfgiamdmfkcjaaDoorMRebuildChunks1
import Derived.Test.YtnfgiamdmfkcjaaDoorMRebuildChunks2
import Derived.Test.YtnfgiamdmfkcjaaDoorMRebuildChunks3
import Derived.StillTailTactics
set_option linter.unusedSimpArgs false
set_option linter.unusedVariables false
namespace Go.Proofs.YtnfgiamdmfkcjaaDoor.Red
open Go.RowKit Go.Proofs.YtnfgiamdmfkcjaaDoorW.PrintWords Go.Proofs.YtnfgiamdmfkcjaaDoor.Leaf Go.Proofs.YtnfgiamdmfkcjaaDoor.Gf Go.Proofs.YtnfgiamdmfkcjaaDoor.H Go.Proofs.YtnfgiamdmfkcjaaDoor.Mx Go.Proofs.YtnfgiamdmfkcjaaDoor.P
/-- A product on its way, row by row. -/
def stC (n m p : Nat) (A C : Mat) (i : Nat) (r : List B) : Mat := (List.range n).map fun a => if a < i then (List.range p).map (mm m (el A) (el C) a) else if a = i then r else []
def rwC (m p : Nat) (A C : Mat) (i k : Nat) : List B := (List.range p).map fun b => sm k (fun l => mul (el A i l) (el C l b))
theorem stC_length (n m p : Nat) (A C : Mat) (i : Nat) (r : List B) : (stC n m p A C i r).length = n := by simp [stC]
theorem row_stC (n m p : Nat) (A C : Mat) (i : Nat) (r : List B) (hi : i < n) : row (stC n m p A C i r) i = r := by
 unfold stC
 rw [row_map _ _ _ hi, if_neg (by omega), if_pos rfl]
theorem stC_set (n m p : Nat) (A C : Mat) (i : Nat) (r s : List B) (hi : i < n) : (stC n m p A C i r).set i s = stC n m p A C i s := by
 refine List.ext_getElem (by simp [stC]) fun a h1 h2 => ?_
 simp only [stC, List.getElem_set, List.getElem_map, List.getElem_range]
 by_cases e : i = a
 ·subst e; simp
 ·by_cases e2 : a < i
  ·simp [e, e2]
  ·simp [e, e2, Ne.symm e]
theorem stC_next (n m p : Nat) (A C : Mat) (i : Nat) : stC n m p A C i (rwC m p A C i m) = stC n m p A C (i + 1) [] := by
 refine List.ext_getElem (by simp [stC]) fun a h1 h2 => ?_
 simp only [stC, List.getElem_map, List.getElem_range]
 by_cases e : a < i
 ·rw [if_pos e, if_pos (by omega)]
 ·rw [if_neg e]
  by_cases e2 : a = i
  ·rw [if_pos e2, if_pos (by omega), e2]; rfl
  ·rw [if_neg e2, if_neg (by omega)]
   by_cases e3 : a = i + 1
   ·rw [if_pos e3]
   ·rw [if_neg e3]
theorem stC_all (n m p : Nat) (A C : Mat) : stC n m p A C n [] = matF n p (mm m (el A) (el C)) := by
 unfold stC matF
 exact List.map_congr_left fun a ha => if_pos (List.mem_range.1 ha)
theorem rwC_step (m p : Nat) (A C : Mat) (hC : Reg C m p) (i k : Nat) (hk : k < m) : am (rwC m p A C i k) (row C k) (el A i k) (rwC m p A C i k).length = rwC m p A C i (k + 1) := by
 refine ext0 (by rw [am_length]; simp [rwC]) fun b hb => ?_
 rw [am_length] at hb
 have hb' : b < p := by simpa [rwC] using hb
 rw [am_at _ _ _ _ hb]
 unfold rwC
 rw [at0_map _ _ _ hb', at0_map _ _ _ hb']
 simp only [sm]
 rw [mul_comm (el A i k)]
 rfl
theorem comb_l1 {n m p : Nat} {A C : Mat} (hA : Reg A n m) (hC : Reg C m p) (hn : n ≤ 255) (hm : m ≤ 255) (hp : p ≤ 140737488355327) (r : List (List Int)) (i : Nat) (hi : i < n)
 (hnext : Ev (fun k => wCo_.l0 k (oM C) (oM (stC n m p A C (i + 1) [])) (oM A) (n : Int) ((i + 1 : Nat) : Int)) r) (d : Nat) : ∀ k : Nat, k + d = m →
 Ev (fun f => wCo_.l1 f (oM C) (oM (stC n m p A C i (rwC m p A C i k))) (i : Int) (oM A) (n : Int) (i : Int) (ofL (row A i)) (m : Int) (k : Int)) r := by
 induction d with
 | zero =>
  intro k hk
  obtain rfl : k = m := by omega
  refine Ev.step (f := fun f => wCo_.l0 f (oM C) (oM (stC n k p A C (i + 1) [])) (oM A) (n : Int) ((i + 1 : Nat) : Int)) (fun f => ?_) hnext
  simp only [wCo_.l1]
  rw [if_neg (by omega), stC_next, w64 _ (by omega) (by omega)]
  rfl
 | succ d ih =>
  intro k hk
  have hl : (rwC m p A C i k).length = p := by simp [rwC]
  refine Ev.step (f := fun f => (gf_AddMul.f f (ofL (rwC m p A C i k)) (ofL (row C k)) (ofB (el A i k))).bind fun bt112 => wCo_.l1 f (oM C) ((oM (stC n m p A C i (rwC m p A C i k))).set i bt112.1) (i : Int) (oM A) (n : Int) (i : Int) (ofL (row A i)) (m : Int) ((k + 1 : Nat) : Int)) (fun f => ?_) ?_
  ·simp only [wCo_.l1, zG_, oM_length, rd_oM, rd_ofL, hA.2 i hi, stC_length, hC.1, Int.toNat_natCast, row_stC _ _ _ _ _ _ _ hi]
   rw [if_pos (by omega), if_pos (by omega), if_pos (by omega), if_pos (by omega), if_pos (by omega), if_pos (by omega), w64 _ (by omega) (by omega)]
   rfl
  ·refine Ev.bind (gfAddMul _ _ _ (by rw [hl]; omega)) ?_
   unfold addMulB
   rw [if_pos (by rw [hl, hC.2 k (by omega)])]
   simp only []
   rw [oM_set, stC_set _ _ _ _ _ _ _ _ hi, rwC_step m p A C hC i k (by omega)]
   exact ih (k + 1) (by omega)
theorem comb_l0 {n m p : Nat} {A C : Mat} (hA : Reg A n m) (hC : Reg C m p) (hn : n ≤ 255) (hm0 : 0 < m) (hm : m ≤ 255) (hp : p ≤ 140737488355327) (d : Nat) : ∀ i : Nat, i + d = n →
 Ev (fun k => wCo_.l0 k (oM C) (oM (stC n m p A C i [])) (oM A) (n : Int) (i : Int)) (oM (matF n p (mm m (el A) (el C)))) := by
 induction d with
 | zero =>
  intro i hi
  obtain rfl : i = n := by omega
  refine Ev.step (f := fun _ => some (oM (matF i p (mm m (el A) (el C))))) (fun k => ?_) (Ev.now _)
  simp only [wCo_.l0]
  rw [if_neg (by omega), stC_all]
 | succ d ih =>
  intro i hi
  refine Ev.step (f := fun f => wCo_.l1 f (oM C) (oM (stC n m p A C i (rwC m p A C i 0))) (i : Int) (oM A) (n : Int) (i : Int) (ofL (row A i)) (m : Int) ((0 : Nat) : Int)) (fun f => ?_) (comb_l1 hA hC hn hm hp _ i (by omega) (ih (i + 1) (by omega)) m 0 (by omega))
  simp only [wCo_.l0, oM_length, rd_oM, rd_oM0, zG_, hA.1, hA.2 i (by omega), hC.1, hC.2 0 hm0, stC_length, Int.toNat_natCast]
  have e : List.replicate p (0 : Int) = ofL (rwC m p A C i 0) := by
   rw [ofL_replicate]
   congr 1
   refine List.ext_getElem (by simp [rwC]) fun b h1 h2 => ?_
   simp [rwC, sm]
  rw [if_pos (by omega), if_pos (by omega), if_pos (by omega), if_pos (by omega), if_pos (by omega), if_pos (by omega), if_pos (by omega), e, oM_set, stC_set _ _ _ _ _ _ _ _ (by omega)]
  rfl
theorem evCombine {n m p : Nat} {A C : Mat} (hA : Reg A n m) (hC : Reg C m p) (hn : n ≤ 255) (hm0 : 0 < m) (hm : m ≤ 255) (hp : p ≤ 140737488355327) : Ev (fun k => wCo_.f k (oM A) (oM C)) (oM (mulM A C)) := by
 unfold wCo_.f
 simp only [oM_length, hA.1, Int.toNat_natCast, show ((0 : Int) ≤ (n : Int)) = True from eq_true (by omega), if_true, show (n ≤ 11728124029610) = True from eq_true (by omega)]
 have e : List.replicate n ([] : List Int) = oM (stC n m p A C 0 []) := by
  unfold oM
  refine List.ext_getElem (by simp [stC]) fun a h1 h2 => ?_
  simp [stC]
  rfl
 rw [e]
 have e2 : mulM A C = matF n p (mm m (el A) (el C)) := by unfold mulM; rw [hA.1, hC.1, hC.2 0 hm0]
 rw [e2]
 exact comb_l0 hA hC hn hm0 hm hp n 0 (by omega)
def evenB (D : Mat) (n : Int) : Bool := ((D.length : Int) == n) && (List.range D.length).all fun i => (row D i).length == (row D 0).length
theorem evenB_iff (D : Mat) (k : Nat) : evenB D (k : Int) = true ↔ Reg D k (row D 0).length := by
 unfold evenB Reg
 simp only [Bool.and_eq_true, beq_iff_eq, List.all_eq_true, List.mem_range]
 constructor
 ·rintro ⟨h1, h2⟩
  have e : D.length = k := by omega
  exact ⟨e, fun i hi => h2 i (by omega)⟩
 ·rintro ⟨h1, h2⟩
  exact ⟨by omega, fun i hi => h2 i (by omega)⟩
theorem code_even_eq (D : Mat) (n : Int) (hn : 0 < n) : code_even.f (oM D) n = some (evenB D n) := by
 unfold code_even.f evenB
 rw [oM_length, decide_eq_true hn, Bool.and_true]
 congr 1
 congr 1
 rw [List.not_any_eq_all_not]
 refine List.all_congr rfl ?_
 intro i
 unfold unevenAt
 have e : ∀ j, (oM D).getD j [] = ofL (row D j) := fun j => map_getD D j
 rw [e, e, zG_, zG_, Bool.eq_iff_iff]
 simp only [Bool.not_eq_true', bne_eq_false_iff_eq, beq_iff_eq]
 omega
theorem even_ok (D : Mat) (hs : D.length ≤ 9223372036854775807) (h : ∀ j, j < D.length → (row D j).length = (row D 0).length) (n : Nat) : ∀ i : Nat, i + n = D.length → Ev (fun k => wEv_.l0 k (oM D) (i : Int)) true := by
 induction n with
 | zero =>
  intro i hi
  refine Ev.step (f := fun _ => some true) (fun k => ?_) (Ev.now _)
  simp only [wEv_.l0, oM_length]
  rw [if_neg (by omega)]
 | succ n ih =>
  intro i hi
  have hi' := h i (by omega)
  refine Ev.step (f := fun k => wEv_.l0 k (oM D) ((i + 1 : Nat) : Int)) (fun k => ?_) (ih (i + 1) (by omega))
  simp only [wEv_.l0, oM_length, rd_oM, rd_oM0, zG_]
  rw [if_pos (by omega), if_pos (by omega), if_pos (by omega), if_pos (by omega), w64 _ (by omega) (by omega)]
  rfl
theorem even_bad (D : Mat) (hs : D.length ≤ 9223372036854775807) (j : Nat) (hj : j < D.length) (hne : (row D j).length ≠ (row D 0).length) (n : Nat) : ∀ i : Nat, i + n = j → Ev (fun k => wEv_.l0 k (oM D) (i : Int)) false := by
 induction n with
 | zero =>
  intro i hi
  obtain rfl : i = j := by omega
  refine Ev.step (f := fun _ => some false) (fun k => ?_) (Ev.now _)
  simp only [wEv_.l0, oM_length, rd_oM, rd_oM0, zG_]
  rw [if_pos (by omega), if_pos (by omega), if_pos (by omega), if_neg (by omega)]
 | succ n ih =>
  intro i hi
  by_cases he : (row D i).length = (row D 0).length
  ·refine Ev.step (f := fun k => wEv_.l0 k (oM D) ((i + 1 : Nat) : Int)) (fun k => ?_) (ih (i + 1) (by omega))
   simp only [wEv_.l0, oM_length, rd_oM, rd_oM0, zG_]
   rw [if_pos (by omega), if_pos (by omega), if_pos (by omega), if_pos (by omega), w64 _ (by omega) (by omega)]
   rfl
  ·refine Ev.step (f := fun _ => some false) (fun k => ?_) (Ev.now _)
   simp only [wEv_.l0, oM_length, rd_oM, rd_oM0, zG_]
   rw [if_pos (by omega), if_pos (by omega), if_pos (by omega), if_neg (by omega)]
theorem evRefEven (D : Mat) (hs : D.length ≤ 9223372036854775807) (n : Int) : Ev (fun k => wEv_.f k (oM D) n) (evenB D n) := by
 unfold wEv_.f evenB
 simp only [oM_length]
 by_cases h1 : (D.length : Int) = n
 ·simp only [h1, if_true, beq_self_eq_true, Bool.true_and]
  by_cases h2 : ∀ j, j < D.length → (row D j).length = (row D 0).length
  ·rw [show ((List.range D.length).all fun i => (row D i).length == (row D 0).length) = true by simpa [List.all_eq_true] using h2]
   exact even_ok D hs h2 D.length 0 (by omega)
  ·obtain ⟨j, hj, hne⟩ := uneven h2
   rw [show ((List.range D.length).all fun i => (row D i).length == (row D 0).length) = false by
    rw [List.all_eq_false]
    exact ⟨j, List.mem_range.2 hj, by simpa using hne⟩]
   exact even_bad D hs j hj hne j 0 (by omega)
 ·simp only [h1, if_false]
  rw [beq_eq_false_iff_ne.2 h1, Bool.false_and]
  exact Ev.now _
def codeB (a b : Int) : Bool := decide (1 ≤ a) && decide (1 ≤ b) && decide (b ≤ 255 - a)
theorem code_eq (a b : Int) (ha : -9223372036854775808 ≤ a) : mooringref03_Code.f a b = some (codeB a b) := by
 unfold mooringref03_Code.f codeB
 by_cases h1 : a ≥ 1
 ·rw [if_pos h1, decide_eq_true (show 1 ≤ a from h1)]
  by_cases h2 : b ≥ 1
  ·rw [if_pos h2, decide_eq_true (show 1 ≤ b from h2)]
   by_cases h3 : a ≤ 254
   ·rw [if_pos h3, w64 _ (by omega) (by omega)]; simp
   ·rw [if_neg h3, decide_eq_false (by omega)]; rfl
  ·rw [if_neg h2, decide_eq_false (show ¬ 1 ≤ b by omega)]; rw [Bool.and_false, Bool.false_and]
 ·rw [if_neg h1, decide_eq_false (show ¬ 1 ≤ a by omega), Bool.false_and, Bool.false_and]
theorem codeB_form (a b : Int) : (codeB a b = true ∧ ∃ k m : Nat, a = (k : Int) ∧ b = (m : Int) ∧ 1 ≤ k ∧ 1 ≤ m ∧ k + m ≤ 255 ∧ cauR a b = (oM (cauM k m), 0)) ∨ (codeB a b = false ∧ cauR a b = (oM [], 1)) := by
 unfold codeB cauR
 by_cases h : 1 ≤ a ∧ 1 ≤ b ∧ b ≤ 255 - a
 ·rw [if_pos h]
  exact .inl ⟨by simp [h], a.toNat, b.toNat, by omega, by omega, by omega, by omega, by omega, rfl⟩
 ·rw [if_neg h]
  refine .inr ⟨?_, rfl⟩
  rw [← Bool.not_eq_true]
  simpa [and_assoc] using h
def encR (a b : Int) (D : Mat) : List (List Int) × Int := if codeB a b = true ∧ evenB D a = true then (oM (mulM (cauM a.toNat b.toNat) D), 0) else ([], 1)
theorem evEncode (a b : Int) (ha : -9223372036854775808 ≤ a) (D : Mat) (hr : ∀ i, i < D.length → (row D i).length ≤ 140737488355327) : Ev (fun k => code_Encode.f k a b (oM D)) (encR a b D) := by
 unfold code_Encode.f encR
 refine Ev.bind (evCauchy a b ha) ?_
 rcases codeB_form a b with ⟨h1, k, m, rfl, rfl, hk, hm, h, e⟩ | ⟨h1, e⟩
 ·rw [e]
  simp only [if_true, h1, true_and, code_even_eq D (k : Int) (by omega), Option.bind_some]
  by_cases h2 : evenB D (k : Int) = true
  ·simp only [h2, if_true, Int.toNat_natCast]
   have hD := (evenB_iff D k).1 h2
   refine Ev.bind (evCombine (cauM_reg k m) hD h (by omega) (by omega) (by have := hr 0 (by rw [hD.1]; omega); omega)) ?_
   exact Ev.now _
  ·simp only [h2, if_false]
   exact Ev.now _
 ·rw [e]
  simp only [h1, show ((1 : Int) = 0) = False from eq_false (by decide), if_false, Bool.false_eq_true, false_and]
  exact Ev.now _
theorem enc_l2 {n k p : Nat} {A D : Mat} (hA : Reg A n k) (hD : Reg D k p) (hk : k ≤ 255) (hp : p ≤ 140737488355327) (a0 a1 : Int) (ha : a0 = (k : Int)) (r : List (List Int) × Int) (X : List (List Int)) (i : Nat) (hi : i < n) (R : List B) (at_ : Nat) (hat : at_ < p) (hR : R.length = p)
 (hnext : Ev (fun f => wEn_.l1 f a0 a1 (oM D) (oM A) X (i : Int) (ofL (R.set at_ (mm k (el A) (el D) i at_))) ((at_ + 1 : Nat) : Int)) r) (d : Nat) : ∀ j : Nat, j + d = k →
 Ev (fun f => wEn_.l2 f a0 a1 (oM D) (oM A) X (i : Int) (ofL (R.set at_ (sm j (fun l => mul (el A i l) (el D l at_))))) (at_ : Int) (j : Int)) r := by
 induction d with
 | zero =>
  intro j hj
  obtain rfl : j = k := by omega
  refine Ev.step (f := fun f => wEn_.l1 f a0 a1 (oM D) (oM A) X (i : Int) (ofL (R.set at_ (mm j (el A) (el D) i at_))) ((at_ + 1 : Nat) : Int)) (fun f => ?_) hnext
  simp only [wEn_.l2, ha]
  rw [if_neg (by omega), w64 _ (by omega) (by omega)]
  rfl
 | succ d ih =>
  intro j hj
  refine Ev.step (f := fun f => (wMu_.f f (ofB (el A i j)) (ofB (el D j at_))).bind fun t122 => wEn_.l2 f a0 a1 (oM D) (oM A) X (i : Int) ((ofL (R.set at_ (sm j (fun l => mul (el A i l) (el D l at_))))).set at_ (Go.bits .xor .u8 (ofB (sm j (fun l => mul (el A i l) (el D l at_)))) t122)) (at_ : Int) ((j + 1 : Nat) : Int)) (fun f => ?_) ?_
  ·have e : at0 (R.set at_ (sm j (fun l => mul (el A i l) (el D l at_)))) at_ = sm j (fun l => mul (el A i l) (el D l at_)) := by rw [at0_set _ _ _ _ (by omega), if_pos rfl]
   simp only [wEn_.l2, oM_length, hA.1, hD.1, rd_oM, rd_ofL, zG_, List.length_set, hA.2 i hi, hD.2 j (by omega), hR, Int.toNat_natCast, e, ha]
   rw [if_pos (by omega), if_pos (by omega), if_pos (by omega), if_pos (by omega), if_pos (by omega), if_pos (by omega), if_pos (by omega), if_pos (by omega), if_pos (by omega), w64 _ (by omega) (by omega)]
   rfl
  ·refine Ev.bind (refMul _ _) ?_
   rw [xor_ofB, ofL_set, List.set_set]
   exact ih (j + 1) (by omega)
def rwE (k p : Nat) (A D : Mat) (i at_ : Nat) : List B := (List.range p).map fun b => if b < at_ then mm k (el A) (el D) i b else 0#8
theorem rwE_set (k p : Nat) (A D : Mat) (i at_ : Nat) (h : at_ < p) : (rwE k p A D i at_).set at_ (mm k (el A) (el D) i at_) = rwE k p A D i (at_ + 1) := by
 refine ext0 (by simp [rwE]) fun b hb => ?_
 rw [List.length_set] at hb
 have hb' : b < p := by simpa [rwE] using hb
 have e : ∀ c, at0 (rwE k p A D i c) b = if b < c then mm k (el A) (el D) i b else 0#8 := fun c => at0_map _ _ _ hb'
 rw [at0_set _ _ _ _ (by simpa [rwE] using h), e, e]
 by_cases e1 : at_ = b
 ·subst e1
  rw [if_pos rfl, if_pos (by omega)]
 ·rw [if_neg e1]
  by_cases e2 : b < at_
  ·rw [if_pos e2, if_pos (by omega)]
  ·rw [if_neg e2, if_neg (by omega)]
theorem rwE_zero (k p : Nat) (A D : Mat) (i at_ : Nat) (h : at_ < p) : (rwE k p A D i at_).set at_ 0#8 = rwE k p A D i at_ := by
 refine ext0 (by simp [rwE]) fun b hb => ?_
 rw [List.length_set] at hb
 have hb' : b < p := by simpa [rwE] using hb
 have e : ∀ c, at0 (rwE k p A D i c) b = if b < c then mm k (el A) (el D) i b else 0#8 := fun c => at0_map _ _ _ hb'
 rw [at0_set _ _ _ _ (by simpa [rwE] using h), e]
 by_cases e1 : at_ = b
 ·rw [if_pos e1, if_neg (by omega)]
 ·rw [if_neg e1]
theorem enc_l1 {n k p : Nat} {A D : Mat} (hA : Reg A n k) (hD : Reg D k p) (hn : n ≤ 255) (hk : k ≤ 255) (hp : p ≤ 140737488355327) (a0 a1 : Int) (ha : a0 = (k : Int)) (r : List (List Int) × Int) (i : Nat) (hi : i < n)
 (hnext : Ev (fun f => wEn_.l0 f a0 a1 (oM D) (oM A) (oM (matF (i + 1) p (mm k (el A) (el D)))) ((i + 1 : Nat) : Int)) r) (d : Nat) : ∀ at_ : Nat, at_ + d = p →
 Ev (fun f => wEn_.l1 f a0 a1 (oM D) (oM A) (oM (matF i p (mm k (el A) (el D)))) (i : Int) (ofL (rwE k p A D i at_)) (at_ : Int)) r := by
 induction d with
 | zero =>
  intro at_ hat
  obtain rfl : at_ = p := by omega
  refine Ev.step (f := fun f => wEn_.l0 f a0 a1 (oM D) (oM A) (oM (matF (i + 1) at_ (mm k (el A) (el D)))) ((i + 1 : Nat) : Int)) (fun f => ?_) hnext
  have hl : (rwE k at_ A D i at_).length = at_ := by simp [rwE]
  have e : rwE k at_ A D i at_ = (List.range at_).map (mm k (el A) (el D) i) := List.map_congr_left fun b hb => if_pos (List.mem_range.1 hb)
  have e2 : matF i at_ (mm k (el A) (el D)) ++ [(List.range at_).map (mm k (el A) (el D) i)] = matF (i + 1) at_ (mm k (el A) (el D)) := by unfold matF; rw [List.range_succ, List.map_append]; rfl
  simp only [wEn_.l1, zG_, hl, oM_length, (matF_reg i at_ (mm k (el A) (el D))).1]
  rw [if_neg (by omega), if_pos (by omega), oM_one, oM_append, e, e2, w64 _ (by omega) (by omega)]
  rfl
 | succ d ih =>
  intro at_ hat
  have hl : (rwE k p A D i at_).length = p := by simp [rwE]
  refine Ev.step (f := fun f => wEn_.l2 f a0 a1 (oM D) (oM A) (oM (matF i p (mm k (el A) (el D)))) (i : Int) (ofL ((rwE k p A D i at_).set at_ (sm 0 (fun l => mul (el A i l) (el D l at_))))) (at_ : Int) ((0 : Nat) : Int)) (fun f => ?_) (enc_l2 hA hD hk hp a0 a1 ha r _ i hi _ at_ (by omega) hl ?_ k 0 (by omega))
  ·simp only [wEn_.l1, zG_, hl, sm, rwE_zero k p A D i at_ (by omega)]
   rw [if_pos (by omega)]
   rfl
  ·rw [rwE_set k p A D i at_ (by omega)]
   exact ih (at_ + 1) (by omega)
theorem enc_l0 {n k p : Nat} {A D : Mat} (hA : Reg A n k) (hD : Reg D k p) (hn : n ≤ 255) (hk0 : 0 < k) (hk : k ≤ 255) (hp : p ≤ 140737488355327) (a0 a1 : Int) (ha : a0 = (k : Int)) (hw : wrap64 (a0 + a1) = (n : Int)) (d : Nat) : ∀ i : Nat, i + d = n →
 Ev (fun f => wEn_.l0 f a0 a1 (oM D) (oM A) (oM (matF i p (mm k (el A) (el D)))) (i : Int)) (oM (matF n p (mm k (el A) (el D))), 0) := by
 induction d with
 | zero =>
  intro i hi
  obtain rfl : i = n := by omega
  refine Ev.step (f := fun _ => some (oM (matF i p (mm k (el A) (el D))), 0)) (fun f => ?_) (Ev.now _)
  simp only [wEn_.l0, hw]
  rw [if_neg (by omega)]
 | succ d ih =>
  intro i hi
  refine Ev.step (f := fun f => wEn_.l1 f a0 a1 (oM D) (oM A) (oM (matF i p (mm k (el A) (el D)))) (i : Int) (ofL (rwE k p A D i 0)) ((0 : Nat) : Int)) (fun f => ?_) (enc_l1 hA hD hn hk hp a0 a1 ha _ i (by omega) (ih (i + 1) (by omega)) p 0 (by omega))
  have e : List.replicate p (0 : Int) = ofL (rwE k p A D i 0) := by
   rw [ofL_replicate]
   congr 1
   refine List.ext_getElem (by simp [rwE]) fun b h1 h2 => ?_
   simp [rwE]
  simp only [wEn_.l0, hw, oM_length, hD.1, rd_oM0, zG_, hD.2 0 hk0, Int.toNat_natCast]
  rw [if_pos (by omega), if_pos (by omega), if_pos (by omega), if_pos (by omega), e]
  rfl
theorem evRefEncode (a b : Int) (ha : -9223372036854775808 ≤ a) (D : Mat) (hs : D.length ≤ 9223372036854775807) (hr : ∀ i, i < D.length → (row D i).length ≤ 140737488355327) : Ev (fun k => wEn_.f k a b (oM D)) (encR a b D) := by
 have j1 : Ev (fun f => wEn_.j0 f a b (oM D) true) ([], 1) := Ev.step (f := fun _ => some ([], 1)) (fun f => by simp only [wEn_.j0, if_true]) (Ev.now _)
 unfold wEn_.f encR
 simp only [code_eq a b ha, Option.bind_some]
 rcases codeB_form a b with ⟨h1, k, m, rfl, rfl, hk, hm, h, e⟩ | ⟨h1, e⟩
 ·simp only [h1, if_true, true_and]
  refine Ev.bind (evRefEven D hs (k : Int)) ?_
  by_cases h2 : evenB D (k : Int) = true
  ·simp only [h2, if_true, Bool.not_true, Int.toNat_natCast]
   have hD := (evenB_iff D k).1 h2
   refine Ev.step (f := fun f => (wCa_.f f (k : Int) (m : Int)).bind fun bt103 => wEn_.l0 f (k : Int) (m : Int) (oM D) bt103.1 [] 0) (fun f => by simp only [wEn_.j0, Bool.false_eq_true, if_false]) ?_
   refine Ev.bind (evRefCauchy (k : Int) (m : Int) (by omega)) ?_
   rw [e]
   simp only []
   have e2 : mulM (cauM k m) D = matF (k + m) (row D 0).length (mm k (el (cauM k m)) (el D)) := by unfold mulM; rw [(cauM_reg k m).1, hD.1]
   rw [e2]
   exact enc_l0 (cauM_reg k m) hD h (by omega) (by omega) (by have := hr 0 (by rw [hD.1]; omega); omega) (k : Int) (m : Int) rfl (by rw [w64 _ (by omega) (by omega)]; omega) (k + m) 0 (by omega)
  ·simp only [h2, Bool.false_eq_true, if_false, Bool.not_false]
   exact j1
 ·simp only [h1, Bool.false_eq_true, if_false, false_and]
  exact j1
end Go.Proofs.YtnfgiamdmfkcjaaDoor.Red
namespace Go.Proofs.YtnfgiamdmfkcjaaDoor.P
open Go.Proofs.YtnfgiamdmfkcjaaDoor.Leaf
open Go.RowKit Go.Proofs.YtnfgiamdmfkcjaaDoorW.PrintWords Go.Proofs.YtnfgiamdmfkcjaaDoorW.PrintLast Go.Proofs.YtnfgiamdmfkcjaaDoorW.PrintMore
attribute [local go_sem] max2_int min2_int max_two min_two max_three min_three max_four min_four
def stripe_stripes.f (a0 : Int) (a1 : Int) : Option (Int) := if (wrap64 (a0 * 16)) = 0 then (none) else (some (wrap64 (Int.tdiv (wrap64 ((wrap64 (a1 + (wrap64 (a0 * 16)))) - 1)) (wrap64 (a0 * 16)))))
set_option maxHeartbeats 8000000 in
set_option maxRecDepth 100000 in
theorem stripe_stripes.calls (a0 : Int) (a1 : Int) (r : Int) (w : World) (h : stripe_stripes.f a0 a1 = some r) :
 Calls Tryd.prog 55 #[.int .i64 a0, .int .i64 a1] w fun e w' => e = .returned (.int .i64 r) ∧ Drawn0 w w' := by
 have H : (if (wrap64 (a0 * 16)) = 0 then (none) else (some (wrap64 (Int.tdiv (wrap64 ((wrap64 (a1 + (wrap64 (a0 * 16)))) - 1)) (wrap64 (a0 * 16)))))) = some r := h
 clear h
 by_cases c3 : (wrap64 (a0 * 16)) = 0
 ·rw [if_pos c3] at H
  exact absurd H (by simp)
 ·rw [if_neg c3] at H
  have c3b0 : ((wrap64 (a0 * 16)) == 0) = false := beq_eq_false_iff_ne.mpr c3
  have c3b1 : ((wrap64 (a0 * 16)) != 0) = true := bne_iff_ne.mpr c3
  obtain rfl := Option.some.inj H
  go_enter Tryd.func55, Tryd.ntmps55
  go_wp2
  go_ret
  exact ⟨by first | rfl | (simp; done) | (simp [*]; done), by repeat (first | exact Drawn0.refl _ | apply Drawn0.step)⟩
def stripe_Length.j0 : Nat → Int → Int → Bool → Option (Int × Int)
 | 0, _, _, _ => none
 | k + 1, x0, x1, x6 => if x6 = true then (some (0, 1)) else (if x1 > 4096 then (some (0, 3)) else ((stripe_stripes.f x0 x1).bind fun t101 => (some (wrap64 (t101 * 16), 0))))
def stripe_Length.f (k : Nat) (a0 : Int) (a1 : Int) : Option (Int × Int) := if a0 < 1 then (stripe_Length.j0 k a0 a1 true) else (if a0 > 254 then (stripe_Length.j0 k a0 a1 true) else (stripe_Length.j0 k a0 a1 (decide (a1 < 0))))
theorem stripe_Length.mono_l : ∀ k, (∀ y0 y1 y2, LeO (stripe_Length.j0 k y0 y1 y2) (stripe_Length.j0 (k + 1) y0 y1 y2))
 | 0 => fun _ _ _ r h => by simp [stripe_Length.j0] at h
 | k + 1 => by
  have ih0 := stripe_Length.mono_l k
  ·intro y0 y1 y2
   unfold stripe_Length.j0
   repeat' first
   | (with_reducible exact ih0 _ _ _)
   | (with_reducible exact LeO.refl _)
   | (with_reducible exact LeO.none _)
   | (with_reducible refine LeO.ite ?_ ?_)
   | (with_reducible refine LeO.bind ?_ (fun _ => ?_))
   | exact ih0 _ _ _
   | exact LeO.none _
   | refine LeO.ite ?_ ?_
   | refine LeO.bind ?_ (fun _ => ?_)
theorem stripe_Length.mono : ∀ a0 a1 k, LeO (stripe_Length.f k a0 a1) (stripe_Length.f (k + 1) a0 a1) := by
 intro a0 a1 k
 have ih0 := stripe_Length.mono_l k
 unfold stripe_Length.f
 repeat' first
  | (with_reducible exact ih0 _ _ _)
  | (with_reducible exact LeO.refl _)
  | (with_reducible exact LeO.none _)
  | (with_reducible refine LeO.ite ?_ ?_)
  | (with_reducible refine LeO.bind ?_ (fun _ => ?_))
  | exact ih0 _ _ _
  | exact LeO.none _
  | refine LeO.ite ?_ ?_
  | refine LeO.bind ?_ (fun _ => ?_)
set_option maxHeartbeats 8000000 in
set_option maxRecDepth 100000 in
theorem stripe_Length.calls (k : Nat) (a0 : Int) (a1 : Int) (r1 : Int) (r2 : Int) (w : World) (h : stripe_Length.f k a0 a1 = some (r1, r2)) :
 Calls Tryd.prog 31 #[.int .i64 a0, .int .i64 a1] w fun e w' => e = .returned (.tuple #[.int .i64 r1, .int .i64 r2]) ∧ Drawn0 w w' := by
 have H : (if a0 < 1 then (stripe_Length.j0 k a0 a1 true) else (if a0 > 254 then (stripe_Length.j0 k a0 a1 true) else (stripe_Length.j0 k a0 a1 (decide (a1 < 0))))) = some (r1, r2) := h
 clear h
 have HC3 := Aside0.mk H
 clear H
 go_enter Tryd.func31, Tryd.ntmps31
 go_upto_region 1 with (fail)
 go_cut [6] (fun v6 wc => ∃ (kq : Nat) (x6_2 : Bool), v6 = .bool x6_2 ∧ Aside0 (stripe_Length.j0 kq a0 a1 x6_2 = some (r1, r2)) ∧ Aside0 (kq ≤ k) ∧ Drawn0 w wc)
 case first =>
  have H := HC3.out
  clear HC3
  by_cases c4 : a0 < 1
  ·rw [if_pos c4] at H
   have c4b0 : decide (a0 < 1) = true := decide_eq_true c4
   clear c4
   (first | rw [c4b0] | (simp only [i64_w, i32_w]; rw [c4b0]) | skip)
   have H' := Aside0.mk H
   clear H
   go_wp2
   go_meet
   case rel => exact ⟨_, (true), (by first | rfl | (simp; done) | (simp [*]; done)), H', ⟨by first | omega | exact Nat.le_refl _⟩, by repeat (first | exact Drawn0.refl _ | apply Drawn0.step)⟩
  ·rw [if_neg c4] at H
   have c4b0 : decide (a0 < 1) = false := decide_eq_false c4
   clear c4
   (first | rw [c4b0] | (simp only [i64_w, i32_w]; rw [c4b0]) | skip)
   by_cases c5 : a0 > 254
   ·rw [if_pos c5] at H
    have c5b0 : decide (254 < a0) = true := decide_eq_true c5
    clear c5
    have H' := Aside0.mk H
    clear H
    go_wp2
    go_meet
    case rel => exact ⟨_, (true), (by first | rfl | (simp; done) | (simp [*]; done)), H', ⟨by first | omega | exact Nat.le_refl _⟩, by repeat (first | exact Drawn0.refl _ | apply Drawn0.step)⟩
   ·rw [if_neg c5] at H
    have c5b0 : decide (254 < a0) = false := decide_eq_false c5
    clear c5
    have H' := Aside0.mk H
    clear H
    go_wp2
    go_meet
    case rel => exact ⟨_, (decide (a1 < 0)), (by first | rfl | (simp; done) | (simp [*]; done)), H', ⟨by first | omega | exact Nat.le_refl _⟩, by repeat (first | exact Drawn0.refl _ | apply Drawn0.step)⟩
 case rest =>
  clear HC3
  try clear p2
  try clear c3
  try clear c4
  try clear c4b0
  try clear c5
  try clear c5b0
  obtain ⟨kq, x6_2, rfl, HA, HJ2, ⟨mc2, rfl⟩⟩ := hcut
  cases kq with
  | zero => exact absurd HA.out (by simp [stripe_Length.j0])
  | succ kj2 =>
   have H := HA.out
   clear HA
   simp only [stripe_Length.j0] at H
   by_cases c6 : x6_2 = true
   ·subst c6
    have H1 : (some (0, 1)) = some (r1, r2) := by rw [if_pos rfl] at H; exact H
    clear H
    have H := H1
    clear H1
    simp only [Option.some.injEq, Prod.mk.injEq] at H
    obtain ⟨rfl, rfl⟩ := H
    go_wp2
    go_ret2
    exact ⟨by first | rfl | (simp; done) | (simp [*]; done), by repeat (first | exact Drawn0.refl _ | apply Drawn0.step)⟩
   ·replace c6 := Bool.eq_false_iff.mpr c6
    subst c6
    have H1 : (if a1 > 4096 then (some (0, 3)) else ((stripe_stripes.f a0 a1).bind fun t101 => (some (wrap64 (t101 * 16), 0)))) = some (r1, r2) := by rw [if_neg (show ¬ (false = true) by decide)] at H; exact H
    clear H
    have H := H1
    clear H1
    by_cases c7 : a1 > 4096
    ·rw [if_pos c7] at H
     have c7b0 : decide (4096 < a1) = true := decide_eq_true c7
     clear c7
     simp only [Option.some.injEq, Prod.mk.injEq] at H
     obtain ⟨rfl, rfl⟩ := H
     go_wp2
     go_ret2
     exact ⟨by first | rfl | (simp; done) | (simp [*]; done), by repeat (first | exact Drawn0.refl _ | apply Drawn0.step)⟩
    ·rw [if_neg c7] at H
     have c7b0 : decide (4096 < a1) = false := decide_eq_false c7
     clear c7
     replace H := Option.bind_eq_some_iff.mp H
     obtain ⟨t101, A80, H⟩ := H
     replace H : (some (wrap64 (t101 * 16), 0)) = some (r1, r2) := H
     have A8 := Aside0.mk A80
     clear A80
     simp only [Option.some.injEq, Prod.mk.injEq] at H
     obtain ⟨rfl, rfl⟩ := H
     go_wp2_with (first | ((with_reducible refine gate_callee (f := 55) rfl ?_); refine goesL_ (some 22) rfl rfl Tryd.func55 (by kernel_rfl) rfl #[.int .i64 a0, .int .i64 a1] rfl (by (try simp only [List.map_toArray, List.map_cons, List.map_nil]); first | done | rfl | (simp only [List.length_drop, List.length_take]; rfl)) ?_; (with_reducible refine (stripe_stripes.calls a0 a1 t101 _ A8.out).mono ?_); rintro e w' ⟨rfl, ⟨nd, rfl⟩⟩; refine ⟨_, rfl, ?_⟩))
     go_ret2
     exact ⟨by first | rfl | (simp; done) | (simp [*]; done), by repeat (first | exact Drawn0.refl _ | apply Drawn0.step)⟩
def stripe_is.f (a0 : Int) (a1 : Int) : Option (Bool) := if a0 ≥ 1 then (if a1 ≥ 1 then (if a0 ≤ 254 then (some (decide (a1 ≤ (wrap64 (255 - a0))))) else (some false)) else (some false)) else (some false)
set_option maxHeartbeats 8000000 in
set_option maxRecDepth 100000 in
theorem stripe_is.calls (a0 : Int) (a1 : Int) (r : Bool) (w : World) (h : stripe_is.f a0 a1 = some r) :
 Calls Tryd.prog 32 #[.int .i64 a0, .int .i64 a1] w fun e w' => e = .returned (.bool r) ∧ Drawn0 w w' := by
 have H : (if a0 ≥ 1 then (if a1 ≥ 1 then (if a0 ≤ 254 then (some (decide (a1 ≤ (wrap64 (255 - a0))))) else (some false)) else (some false)) else (some false)) = some r := h
 clear h
 by_cases c3 : a0 ≥ 1
 ·rw [if_pos c3] at H
  have c3b0 : decide (1 ≤ a0) = true := decide_eq_true c3
  clear c3
  by_cases c4 : a1 ≥ 1
  ·rw [if_pos c4] at H
   have c4b0 : decide (1 ≤ a1) = true := decide_eq_true c4
   clear c4
   by_cases c5 : a0 ≤ 254
   ·rw [if_pos c5] at H
    have c5b0 : decide (a0 ≤ 254) = true := decide_eq_true c5
    clear c5
    obtain rfl := Option.some.inj H
    go_enter Tryd.func32, Tryd.ntmps32
    go_wp2
    go_ret
    exact ⟨by first | rfl | (simp; done) | (simp [*]; done), by repeat (first | exact Drawn0.refl _ | apply Drawn0.step)⟩
   ·rw [if_neg c5] at H
    have c5b0 : decide (a0 ≤ 254) = false := decide_eq_false c5
    clear c5
    obtain rfl := Option.some.inj H
    go_enter Tryd.func32, Tryd.ntmps32
    go_wp2
    go_ret
    exact ⟨by first | rfl | (simp; done) | (simp [*]; done), by repeat (first | exact Drawn0.refl _ | apply Drawn0.step)⟩
  ·rw [if_neg c4] at H
   have c4b0 : decide (1 ≤ a1) = false := decide_eq_false c4
   clear c4
   obtain rfl := Option.some.inj H
   go_enter Tryd.func32, Tryd.ntmps32
   go_wp2
   go_ret
   exact ⟨by first | rfl | (simp; done) | (simp [*]; done), by repeat (first | exact Drawn0.refl _ | apply Drawn0.step)⟩
 ·rw [if_neg c3] at H
  have c3b0 : decide (1 ≤ a0) = false := decide_eq_false c3
  clear c3
  obtain rfl := Option.some.inj H
  go_enter Tryd.func32, Tryd.ntmps32
  go_wp2
  go_ret
  exact ⟨by first | rfl | (simp; done) | (simp [*]; done), by repeat (first | exact Drawn0.refl _ | apply Drawn0.step)⟩
mutual
def wLe_.j0 : Nat → Int → Int → Bool → Option (Int × Int)
 | 0, _, _, _ => none
 | k + 1, x0, x1, x16 => if x16 = true then (some (0, 1)) else (if x1 > 4096 then (some (0, 3)) else (wLe_.l0 k x0 x1 0))
def wLe_.l0 : Nat → Int → Int → Int → Option (Int × Int)
 | 0, _, _, _ => none
 | k + 1, x0, x1, x6 => if (wrap64 ((wrap64 (x6 * x0)) * 16)) < x1 then (wLe_.l0 k x0 x1 (wrap64 (x6 + 1))) else (some (wrap64 (x6 * 16), 0))
end
def wLe_.f (k : Nat) (a0 : Int) (a1 : Int) : Option (Int × Int) := if a0 < 1 then (wLe_.j0 k a0 a1 true) else (if a0 > 254 then (wLe_.j0 k a0 a1 true) else (wLe_.j0 k a0 a1 (decide (a1 < 0))))
theorem wLe_.mono_l : ∀ k, (∀ y0 y1 y2, LeO (wLe_.j0 k y0 y1 y2) (wLe_.j0 (k + 1) y0 y1 y2)) ∧ (∀ y0 y1 y2, LeO (wLe_.l0 k y0 y1 y2) (wLe_.l0 (k + 1) y0 y1 y2))
 | 0 => ⟨fun _ _ _ r h => by simp [wLe_.j0] at h, fun _ _ _ r h => by simp [wLe_.l0] at h⟩
 | k + 1 => by
  obtain ⟨ih0, ih1⟩ := wLe_.mono_l k
  refine ⟨?_, ?_⟩
  ·intro y0 y1 y2
   unfold wLe_.j0
   repeat' first
   | (with_reducible exact ih0 _ _ _)
   | (with_reducible exact ih1 _ _ _)
   | (with_reducible exact LeO.refl _)
   | (with_reducible exact LeO.none _)
   | (with_reducible refine LeO.ite ?_ ?_)
   | (with_reducible refine LeO.bind ?_ (fun _ => ?_))
   | exact ih0 _ _ _
   | exact ih1 _ _ _
   | exact LeO.none _
   | refine LeO.ite ?_ ?_
   | refine LeO.bind ?_ (fun _ => ?_)
  ·intro y0 y1 y2
   unfold wLe_.l0
   repeat' first
   | (with_reducible exact ih0 _ _ _)
   | (with_reducible exact ih1 _ _ _)
   | (with_reducible exact LeO.refl _)
   | (with_reducible exact LeO.none _)
   | (with_reducible refine LeO.ite ?_ ?_)
   | (with_reducible refine LeO.bind ?_ (fun _ => ?_))
   | exact ih0 _ _ _
   | exact ih1 _ _ _
   | exact LeO.none _
   | refine LeO.ite ?_ ?_
   | refine LeO.bind ?_ (fun _ => ?_)
theorem wLe_.mono : ∀ a0 a1 k, LeO (wLe_.f k a0 a1) (wLe_.f (k + 1) a0 a1) := by
 intro a0 a1 k
 obtain ⟨ih0, ih1⟩ := wLe_.mono_l k
 unfold wLe_.f
 repeat' first
  | (with_reducible exact ih0 _ _ _)
  | (with_reducible exact ih1 _ _ _)
  | (with_reducible exact LeO.refl _)
  | (with_reducible exact LeO.none _)
  | (with_reducible refine LeO.ite ?_ ?_)
  | (with_reducible refine LeO.bind ?_ (fun _ => ?_))
  | exact ih0 _ _ _
  | exact ih1 _ _ _
  | exact LeO.none _
  | refine LeO.ite ?_ ?_
  | refine LeO.bind ?_ (fun _ => ?_)
set_option maxHeartbeats 8000000 in
set_option maxRecDepth 100000 in
theorem wLe_.calls (k : Nat) (a0 : Int) (a1 : Int) (r1 : Int) (r2 : Int) (w : World) (h : wLe_.f k a0 a1 = some (r1, r2)) :
 Calls Tryd.prog 14 #[.int .i64 a0, .int .i64 a1] w fun e w' => e = .returned (.tuple #[.int .i64 r1, .int .i64 r2]) ∧ Drawn0 w w' := by
 have H : (if a0 < 1 then (wLe_.j0 k a0 a1 true) else (if a0 > 254 then (wLe_.j0 k a0 a1 true) else (wLe_.j0 k a0 a1 (decide (a1 < 0))))) = some (r1, r2) := h
 clear h
 have HC3 := Aside0.mk H
 clear H
 go_enter Tryd.func14, Tryd.ntmps14
 go_upto_region 1 with (fail)
 go_cut [16] (fun v16 wc => ∃ (kq : Nat) (x16_2 : Bool), v16 = .bool x16_2 ∧ Aside0 (wLe_.j0 kq a0 a1 x16_2 = some (r1, r2)) ∧ Aside0 (kq ≤ k) ∧ Drawn0 w wc)
 case first =>
  have H := HC3.out
  clear HC3
  by_cases c4 : a0 < 1
  ·rw [if_pos c4] at H
   have c4b0 : decide (a0 < 1) = true := decide_eq_true c4
   clear c4
   (first | rw [c4b0] | (simp only [i64_w, i32_w]; rw [c4b0]) | skip)
   have H' := Aside0.mk H
   clear H
   go_wp2
   go_meet
   case rel => exact ⟨_, (true), (by first | rfl | (simp; done) | (simp [*]; done)), H', ⟨by first | omega | exact Nat.le_refl _⟩, by repeat (first | exact Drawn0.refl _ | apply Drawn0.step)⟩
  ·rw [if_neg c4] at H
   have c4b0 : decide (a0 < 1) = false := decide_eq_false c4
   clear c4
   (first | rw [c4b0] | (simp only [i64_w, i32_w]; rw [c4b0]) | skip)
   by_cases c5 : a0 > 254
   ·rw [if_pos c5] at H
    have c5b0 : decide (254 < a0) = true := decide_eq_true c5
    clear c5
    have H' := Aside0.mk H
    clear H
    go_wp2
    go_meet
    case rel => exact ⟨_, (true), (by first | rfl | (simp; done) | (simp [*]; done)), H', ⟨by first | omega | exact Nat.le_refl _⟩, by repeat (first | exact Drawn0.refl _ | apply Drawn0.step)⟩
   ·rw [if_neg c5] at H
    have c5b0 : decide (254 < a0) = false := decide_eq_false c5
    clear c5
    have H' := Aside0.mk H
    clear H
    go_wp2
    go_meet
    case rel => exact ⟨_, (decide (a1 < 0)), (by first | rfl | (simp; done) | (simp [*]; done)), H', ⟨by first | omega | exact Nat.le_refl _⟩, by repeat (first | exact Drawn0.refl _ | apply Drawn0.step)⟩
 case rest =>
  clear HC3
  try clear c1
  try clear p2
  try clear c4
  try clear c4b0
  try clear c5
  try clear c5b0
  obtain ⟨kq, x16_2, rfl, HA, HJ2, ⟨mc2, rfl⟩⟩ := hcut
  cases kq with
  | zero => exact absurd HA.out (by simp [wLe_.j0])
  | succ kj2 =>
   have H := HA.out
   clear HA
   simp only [wLe_.j0] at H
   by_cases c6 : x16_2 = true
   ·subst c6
    have H1 : (some (0, 1)) = some (r1, r2) := by rw [if_pos rfl] at H; exact H
    clear H
    have H := H1
    clear H1
    simp only [Option.some.injEq, Prod.mk.injEq] at H
    obtain ⟨rfl, rfl⟩ := H
    go_wp2
    go_ret2
    exact ⟨by first | rfl | (simp; done) | (simp [*]; done), by repeat (first | exact Drawn0.refl _ | apply Drawn0.step)⟩
   ·replace c6 := Bool.eq_false_iff.mpr c6
    subst c6
    have H1 : (if a1 > 4096 then (some (0, 3)) else (wLe_.l0 kj2 a0 a1 0)) = some (r1, r2) := by rw [if_neg (show ¬ (false = true) by decide)] at H; exact H
    clear H
    have H := H1
    clear H1
    by_cases c7 : a1 > 4096
    ·rw [if_pos c7] at H
     have c7b0 : decide (4096 < a1) = true := decide_eq_true c7
     clear c7
     simp only [Option.some.injEq, Prod.mk.injEq] at H
     obtain ⟨rfl, rfl⟩ := H
     go_wp2
     go_ret2
     exact ⟨by first | rfl | (simp; done) | (simp [*]; done), by repeat (first | exact Drawn0.refl _ | apply Drawn0.step)⟩
    ·rw [if_neg c7] at H
     have c7b0 : decide (4096 < a1) = false := decide_eq_false c7
     clear c7
     have H' := Aside0.mk H
     clear H
     go_wp2
     go_loopg [6] kj2 (fun kq v6 w' => ∃ (x6_2 : Int), v6 = .int .i64 x6_2 ∧ Aside0 (wLe_.l0 kq a0 a1 x6_2 = some (r1, r2)) ∧ Aside0 (kq ≤ kj2) ∧ Drawn0 w w')
     case atStart => exact ⟨(0), (by first | rfl | (simp; done) | (simp [*]; done)), H', ⟨Nat.le_refl _⟩, by repeat (first | exact Drawn0.refl _ | apply Drawn0.step)⟩
     case round =>
      clear H'
      try clear c1
      try clear c2
      try clear p2
      try clear c4
      try clear c4b0
      try clear c5
      try clear c5b0
      try clear c6
      try clear c7
      try clear c7b0
      try clear p2
      obtain ⟨x6_2, rfl, HA, HK2, ⟨m2, rfl⟩⟩ := hrel
      cases gk with
      | zero => exact absurd HA.out (by simp [wLe_.l0])
      | succ k2 =>
       have H := HA.out
       clear HA
       simp only [wLe_.l0] at H
       by_cases c8 : (wrap64 ((wrap64 (x6_2 * a0)) * 16)) < a1
       ·rw [if_pos c8] at H
        have c8b0 : decide ((wrap64 ((wrap64 (x6_2 * a0)) * 16)) < a1) = true := decide_eq_true c8
        clear c8
        have H' := Aside0.mk H
        clear H
        go_wp2
        go_roundg k2
        case measure => have := HJ2.out; have := HK2.out; omega
        case rel => exact ⟨(wrap64 (x6_2 + 1)), (by first | rfl | (simp; done) | (simp [*]; done)), H', ⟨by have := HJ2.out; have := HK2.out; omega⟩, by repeat (first | exact Drawn0.refl _ | apply Drawn0.step)⟩
       ·rw [if_neg c8] at H
        have c8b0 : decide ((wrap64 ((wrap64 (x6_2 * a0)) * 16)) < a1) = false := decide_eq_false c8
        clear c8
        simp only [Option.some.injEq, Prod.mk.injEq] at H
        obtain ⟨rfl, rfl⟩ := H
        go_wp2
        go_ret2
        exact ⟨by first | rfl | (simp; done) | (simp [*]; done), by repeat (first | exact Drawn0.refl _ | apply Drawn0.step)⟩
end Go.Proofs.YtnfgiamdmfkcjaaDoor.P
namespace Go.Proofs.YtnfgiamdmfkcjaaDoor.Red
open Go.RowKit Go.Proofs.YtnfgiamdmfkcjaaDoorW.PrintWords Go.Proofs.YtnfgiamdmfkcjaaDoor.Leaf Go.Proofs.YtnfgiamdmfkcjaaDoor.Gf Go.Proofs.YtnfgiamdmfkcjaaDoor.H Go.Proofs.YtnfgiamdmfkcjaaDoor.Mx Go.Proofs.YtnfgiamdmfkcjaaDoor.P
/-- How many stripes. -/
def nS (k n : Nat) : Nat := (n + k * 16 - 1) / (k * 16)
def lenS (k n : Nat) : Nat := nS k n * 16
theorem nS_spec (k n : Nat) (hk : 0 < k) : n ≤ nS k n * (k * 16) ∧ ∀ s, s < nS k n → s * (k * 16) < n := by
  unfold nS
  have hp : 0 < k * 16 := by omega
  constructor
  · have h1 := Nat.div_add_mod (n + k * 16 - 1) (k * 16)
    have h2 := Nat.mod_lt (n + k * 16 - 1) hp
    rw [Nat.mul_comm] at h1
    omega
  · intro s hs
    have h1 : (s + 1) * (k * 16) ≤ n + k * 16 - 1 := Nat.le_trans (Nat.mul_le_mul_right _ hs) (Nat.div_mul_le_self _ _)
    rw [Nat.add_mul, Nat.one_mul] at h1
    omega
theorem nS_le (k n : Nat) (hk : 0 < k) : nS k n ≤ n := by
  apply Classical.byContradiction
  intro h
  have h1 := (nS_spec k n hk).2 n (by omega)
  have h2 : n * 1 ≤ n * (k * 16) := Nat.mul_le_mul_left _ (by omega)
  omega
def lenR (a b : Int) : Int × Int := if 1 ≤ a ∧ a ≤ 254 ∧ 0 ≤ b then (if b > 4096 then (0, 3) else ((lenS a.toNat b.toNat : Nat), 0)) else (0, 1)
theorem evLength (a b : Int) : Ev (fun f => stripe_Length.f f a b) (lenR a b) := by
  have j1 : Ev (fun f => stripe_Length.j0 f a b true) (0, 1) := Ev.step (f := fun _ => some (0, 1)) (fun f => by simp only [stripe_Length.j0, if_true]) (Ev.now _)
  unfold stripe_Length.f lenR
  by_cases h1 : a < 1
  · simp only [show (a < 1) = True from eq_true h1, if_true]
    rw [if_neg (by omega)]
    exact j1
  simp only [show (a < 1) = False from eq_false h1, if_false]
  by_cases h2 : a > 254
  · simp only [show (a > 254) = True from eq_true h2, if_true]
    rw [if_neg (by omega)]
    exact j1
  simp only [show (a > 254) = False from eq_false h2, if_false]
  by_cases h3 : b < 0
  · simp only [show decide (b < 0) = true from decide_eq_true h3]
    rw [if_neg (by omega)]
    exact j1
  simp only [show decide (b < 0) = false from decide_eq_false h3]
  rw [if_pos (by omega)]
  by_cases h4 : b > 4096
  · rw [if_pos h4]
    exact Ev.step (f := fun _ => some (0, 3)) (fun f => by simp only [stripe_Length.j0, Bool.false_eq_true, if_false]; rw [if_pos h4]) (Ev.now _)
  · rw [if_neg h4]
    obtain ⟨k, rfl⟩ := Int.eq_ofNat_of_zero_le (show 0 ≤ a by omega)
    obtain ⟨n, rfl⟩ := Int.eq_ofNat_of_zero_le (show 0 ≤ b by omega)
    rw [Int.toNat_natCast, Int.toNat_natCast]
    refine Ev.step (f := fun _ => some (((lenS k n : Nat) : Int), 0)) (fun f => ?_) (Ev.now _)
    simp only [stripe_Length.j0, Bool.false_eq_true, if_false, stripe_stripes.f]
    rw [if_neg h4, w64 ((k : Int) * 16) (by omega) (by omega), if_neg (by omega), Option.bind_some, w64 ((n : Int) + (k : Int) * 16) (by omega) (by omega), w64 ((n : Int) + (k : Int) * 16 - 1) (by omega) (by omega), Int.tdiv_eq_ediv_of_nonneg (by omega)]
    have hq : ((n : Int) + (k : Int) * 16 - 1) / ((k : Int) * 16) = ((nS k n : Nat) : Int) := by
      unfold nS
      rw [Int.natCast_ediv]
      congr 1
      omega
    have hle := nS_le k n (by omega)
    rw [hq, w64 (nS k n : Int) (by omega) (by omega), w64 _ (by omega) (by omega)]
    unfold lenS
    rw [Int.natCast_mul]
    rfl
theorem is_eq (a b : Int) : stripe_is.f a b = some (codeB a b) := by
  unfold stripe_is.f codeB
  by_cases h1 : a ≥ 1
  · rw [if_pos h1, decide_eq_true (show 1 ≤ a from h1)]
    by_cases h2 : b ≥ 1
    · rw [if_pos h2, decide_eq_true (show 1 ≤ b from h2)]
      by_cases h3 : a ≤ 254
      · rw [if_pos h3, w64 _ (by omega) (by omega)]; simp
      · rw [if_neg h3, decide_eq_false (by omega)]; rfl
    · rw [if_neg h2, decide_eq_false (show ¬ 1 ≤ b by omega)]; rw [Bool.and_false, Bool.false_and]
  · rw [if_neg h1, decide_eq_false (show ¬ 1 ≤ a by omega), Bool.false_and, Bool.false_and]
theorem refLen_l0 (k n : Nat) (hk : 0 < k) (hk2 : k ≤ 254) (hn : n ≤ 4096) (d : Nat) : ∀ s : Nat, s + d = nS k n → Ev (fun f => wLe_.l0 f (k : Int) (n : Int) (s : Int)) (((lenS k n : Nat) : Int), 0) := by
  have hle := nS_le k n hk
  have hmul : ∀ s : Nat, s ≤ 4096 → wrap64 ((wrap64 ((s : Int) * (k : Int))) * 16) = ((s * (k * 16) : Nat) : Int) := by
    intro s hs
    have h1 : s * k ≤ 4096 * 254 := Nat.mul_le_mul hs hk2
    rw [show ((s : Int) * (k : Int)) = ((s * k : Nat) : Int) by rw [Int.natCast_mul], w64 ((s * k : Nat) : Int) (by omega) (by omega), w64 _ (by omega) (by omega), ← Nat.mul_assoc, Int.natCast_mul (s * k) 16]
    rfl
  induction d with
  | zero =>
    intro s hs
    obtain rfl : s = nS k n := by omega
    refine Ev.step (f := fun _ => some (((lenS k n : Nat) : Int), 0)) (fun f => ?_) (Ev.now _)
    simp only [wLe_.l0]
    rw [hmul _ (by omega), if_neg (by have := (nS_spec k n hk).1; omega), w64 _ (by omega) (by omega)]
    unfold lenS
    rw [Int.natCast_mul]
    rfl
  | succ d ih =>
    intro s hs
    refine Ev.step (f := fun f => wLe_.l0 f (k : Int) (n : Int) ((s + 1 : Nat) : Int)) (fun f => ?_) (ih (s + 1) (by omega))
    simp only [wLe_.l0]
    rw [hmul _ (by omega), if_pos (by have := (nS_spec k n hk).2 s (by omega); omega), w64 _ (by omega) (by omega)]
    rfl
theorem evRefLength (a b : Int) : Ev (fun f => wLe_.f f a b) (lenR a b) := by
  have j1 : Ev (fun f => wLe_.j0 f a b true) (0, 1) := Ev.step (f := fun _ => some (0, 1)) (fun f => by simp only [wLe_.j0, if_true]) (Ev.now _)
  unfold wLe_.f lenR
  by_cases h1 : a < 1
  · simp only [show (a < 1) = True from eq_true h1, if_true]
    rw [if_neg (by omega)]
    exact j1
  simp only [show (a < 1) = False from eq_false h1, if_false]
  by_cases h2 : a > 254
  · simp only [show (a > 254) = True from eq_true h2, if_true]
    rw [if_neg (by omega)]
    exact j1
  simp only [show (a > 254) = False from eq_false h2, if_false]
  by_cases h3 : b < 0
  · simp only [show decide (b < 0) = true from decide_eq_true h3]
    rw [if_neg (by omega)]
    exact j1
  simp only [show decide (b < 0) = false from decide_eq_false h3]
  rw [if_pos (by omega)]
  by_cases h4 : b > 4096
  · rw [if_pos h4]
    exact Ev.step (f := fun _ => some (0, 3)) (fun f => by simp only [wLe_.j0, Bool.false_eq_true, if_false]; rw [if_pos h4]) (Ev.now _)
  · rw [if_neg h4]
    obtain ⟨k, rfl⟩ := Int.eq_ofNat_of_zero_le (show 0 ≤ a by omega)
    obtain ⟨n, rfl⟩ := Int.eq_ofNat_of_zero_le (show 0 ≤ b by omega)
    rw [Int.toNat_natCast, Int.toNat_natCast]
    exact Ev.step (f := fun f => wLe_.l0 f (k : Int) (n : Int) ((0 : Nat) : Int)) (fun f => by simp only [wLe_.j0, Bool.false_eq_true, if_false]; rw [if_neg h4]; rfl) (refLen_l0 k n (by omega) (by omega) (by omega) (nS k n) 0 (by omega))
end Go.Proofs.YtnfgiamdmfkcjaaDoor.Red
namespace Go.Proofs.YtnfgiamdmfkcjaaDoor.H
open Go.RowKit Go.Proofs.YtnfgiamdmfkcjaaDoorW.PrintWords Go.Proofs.YtnfgiamdmfkcjaaDoor.Leaf Go.Proofs.YtnfgiamdmfkcjaaDoor.Gf
def byteRow (l : List Int) : Bool := l.all fun x => decide (0 ≤ x) && decide (x < 256)
theorem byteRow_ofL (L : List B) : byteRow (ofL L) = true := by
  unfold byteRow ofL
  simp only [List.all_map, List.all_eq_true, Function.comp, Bool.and_eq_true, decide_eq_true_eq]
  exact fun x _ => ofB_range x
theorem ofL_toB (l : List Int) (h : byteRow l = true) : ofL (l.map toB) = l := by
  unfold ofL
  rw [List.map_map]
  refine (List.map_congr_left fun x hx => ?_).trans (List.map_id' l)
  have := List.all_eq_true.1 h x hx
  simp only [Bool.and_eq_true, decide_eq_true_eq] at this
  exact ofB_toB x this.1 this.2
end Go.Proofs.YtnfgiamdmfkcjaaDoor.H
namespace Go.Proofs.YtnfgiamdmfkcjaaDoor.H
open Go.RowKit Go.Proofs.YtnfgiamdmfkcjaaDoorW.PrintWords Go.Proofs.YtnfgiamdmfkcjaaDoorW.PrintLast Go.Proofs.YtnfgiamdmfkcjaaDoor.Leaf Go.Proofs.YtnfgiamdmfkcjaaDoor.Gf Go.Proofs.YtnfgiamdmfkcjaaDoor.Red Go.Proofs.YtnfgiamdmfkcjaaDoor.P
def splR (a b : Int) (L : List B) : List (List Int) × Int := if codeB a b = true then (if L.length > 4096 then ([], 3) else encR a b (spM a.toNat (lenS a.toNat L.length) L)) else ([], 1)
def stripe_Split.f (a0 : Int) (a1 : Int) (l2 : List Int) : Option (List (List Int) × Int) := if -9223372036854775808 ≤ a0 ∧ byteRow l2 = true then some (splR a0 a1 (l2.map toB)) else none
theorem stripe_Split.f_ofL (a b : Int) (ha : -9223372036854775808 ≤ a) (L : List B) : stripe_Split.f a b (ofL L) = some (splR a b L) := by
 unfold stripe_Split.f
 rw [if_pos ⟨ha, byteRow_ofL L⟩]
 congr 2
 unfold ofL
 rw [List.map_map]
 exact (List.map_congr_left fun x _ => toB_ofB x).trans (List.map_id' L)
theorem Mp.fresh {W : World} {base k : Nat} (hb : base ≤ W.heap.size) (hk : k ≤ 255) : Mp (W.alloc (.cells (madeCells #[.slice none 0 0] k) 22 (0, 0))) base W.heap.size k k (fun _ => 0) (fun _ => 0) [] := by
 have h := own_made_of (enc := fun v : Value => v) (d := .slice none 0 0) W base 22 k hb (by omega)
 refine ⟨⟨fun _ => .slice none 0 0, ?_⟩, fun i hi => absurd hi (Nat.not_lt_zero _), fun i j hi => absurd hi (Nat.not_lt_zero _), Nat.zero_le _⟩
 have e : encs (fun j => if j < ([] : List (List Int)).length then sl (fun _ => 0) (fun _ => 0) [] j else (.slice none 0 0 : Value)) (List.range k) = encs (fun v : Value => v) (List.replicate k (.slice none 0 0)) := by
  unfold encs
  refine List.ext_getElem (by simp) fun j h1 h2 => ?_
  simp
 rw [e]
 exact h
theorem Rw.fresh {W : World} {base n : Nat} (hb : base ≤ W.heap.size) (hn : n ≤ 9223372036854775807) : Rw (W.alloc (.cells (madeCells #[.int .u8 0] n) 5 (0, 0))) base W.heap.size n (ofL (List.replicate n 0#8)) := by
 have h := own_made_of (enc := Value.int .u8) (d := (0 : Int)) W base 5 n hb hn
 unfold Rw
 rw [zG_, List.length_replicate, ← ofL_replicate]
 exact h
theorem code_form {a b : Int} (h : codeB a b = true) : ∃ k m : Nat, a = (k : Int) ∧ b = (m : Int) ∧ 1 ≤ k ∧ 1 ≤ m ∧ k + m ≤ 255 := by
 rcases codeB_form a b with ⟨_, k, m, h1, h2, h3, h4, h5, _⟩ | ⟨h1, _⟩
 ·exact ⟨k, m, h1, h2, h3, h4, h5⟩
 ·rw [h1] at h; cases h
theorem lo_hi_run (b n c lo : Nat) (h : lo + 16 ≤ n) (hc : n ≤ c) (x y : Int) (hx : x = (lo : Int)) (hy : y = ((lo + 16 : Nat) : Int)) : ∀ W : World, (Instr.slice 22 (.slice (some ⟨b, 0, none⟩) n c) (some (.int .i64 x)) (some (.int .i64 y)) none).run Tryd.prog W = .ok (.slice (some ⟨b, lo, none⟩) 16 (c - lo)) W := by
 intro W
 subst hx hy
 obtain ⟨i0, hi, hz⟩ := Option.map_eq_some_iff.1 Go.Proofs.YtnfgiamdmfkcjaaDoor.P.info5
 simp only [Prod.mk.injEq] at hz
 have hel : Tryd.prog.elem 22 = 5 := by simp [Program.elem, Tryd.underlying22]
 have hu : Tryd.prog.underlying 22 = some (.slice (Tryd.prog.elem 22)) := by rw [hel]; exact Tryd.underlying22
 rw [run_slice_lh W 22 _ n c hu .i64 .i64 (lo : Int) ((lo + 16 : Nat) : Int) (by omega) (by omega) (by omega), hel]
 have hcd : c ≠ lo := by omega
 simp [sizeOf, typeInfo, hi, hz.2.1, sliced, Result.andThen, hcd, Addr.add]
 exact ⟨fun e => e.symm, by omega⟩
theorem from_run (ad : Addr) (n c at_ : Nat) (h : at_ < n) (hc : n ≤ c) (x : Int) (hx : x = (at_ : Int)) : ∀ W : World, (Instr.slice 22 (.slice (some ad) n c) (some (.int .i64 x)) none none).run Tryd.prog W = .ok (.slice (some (ad.add at_)) (n - at_) (c - at_)) W := by
 intro W
 subst hx
 obtain ⟨i0, hi, hz⟩ := Option.map_eq_some_iff.1 Go.Proofs.YtnfgiamdmfkcjaaDoor.P.info5
 simp only [Prod.mk.injEq] at hz
 have hel : Tryd.prog.elem 22 = 5 := by simp [Program.elem, Tryd.underlying22]
 have hu : Tryd.prog.underlying 22 = some (.slice (Tryd.prog.elem 22)) := by rw [hel]; exact Tryd.underlying22
 rw [run_slice_l W 22 _ n c hu .i64 (at_ : Int) (by omega) (by omega), hel]
 have hcd : c ≠ at_ := by omega
 simp [sizeOf, typeInfo, hi, hz.2.1, sliced, Result.andThen, hcd]
theorem src_cells {w W : World} {ad : Addr} {L : List B} (h : Kd.C (Kd.int .u8) w (some ad) (ofL L).length (ofL L)) (hb : Below w.heap.size w W) (at_ : Nat) : ∀ j v, (encs (Value.int .u8) (ofL ((L.drop at_).take 16)))[j]? = some v → W.cell? ((ad.add at_).add j) = some v := by
 intro j v hj
 unfold encs at hj
 rw [List.getElem?_map] at hj
 obtain ⟨x, hx, rfl⟩ := Option.map_eq_some_iff.1 hj
 have hjl := (List.getElem?_eq_some_iff.1 hx).1
 rw [zG_, List.length_take, List.length_drop] at hjl
 obtain ⟨ad', e, hc⟩ := Kd.at_int h ((at_ + j : Nat) : Int) (by omega) (by rw [zG_]; omega)
 cases e
 rw [Int.toNat_natCast] at hc
 have e2 : (ad.add at_).add j = ad.add (at_ + j) := by by_cases h1 : at_ = 0 <;> by_cases h2 : j = 0 <;> simp [Addr.add, h1, h2, Nat.add_assoc]
 rw [e2]
 have hc2 := zD_ hb hc
 rw [hc2, rd_ofL]
 unfold ofL at hx
 rw [List.getElem?_map] at hx
 obtain ⟨y, hy, rfl⟩ := Option.map_eq_some_iff.1 hx
 rw [List.getElem?_take, List.getElem?_drop] at hy
 unfold at0
 rw [List.getD_eq_getElem?_getD]
 split at hy
 ·rw [hy]; rfl
 ·cases hy
theorem ofL_splice (L : List B) (off : Nat) (cs : List B) : ofL (Go.splice L off cs) = Go.splice (ofL L) off (ofL cs) := by
 unfold Go.splice ofL
 rw [List.map_append, List.map_append, List.map_take, List.map_drop, List.length_map]
def rowsTo (k n : Nat) (L : List B) (i : Nat) : List (List Int) := (List.range i).map fun j => ofL (spR k n L j (n / 16))
theorem rowsTo_length (k n : Nat) (L : List B) (i : Nat) : (rowsTo k n L i).length = i := by simp [rowsTo]
theorem rowsTo_next (k n : Nat) (L : List B) (i : Nat) : rowsTo k n L i ++ [ofL (spR k n L i (n / 16))] = rowsTo k n L (i + 1) := by unfold rowsTo; rw [List.range_succ, List.map_append]; rfl
theorem rowsTo_all (k n : Nat) (L : List B) : rowsTo k n L k = oM (spM k n L) := by unfold rowsTo oM spM; rw [List.map_map]; rfl
set_option maxHeartbeats 8000000 in
set_option maxRecDepth 100000 in
theorem stripe_Split.calls (a0 : Int) (a1 : Int) (A2 : Option Addr) (c2 : Nat) (l2 : List Int) (r1 : List (List Int)) (r2 : Int) (w : World) (hr2 : Kd.C (Kd.int .u8) w A2 l2.length l2) (hc2 : l2.length ≤ c2) (h : stripe_Split.f a0 a1 l2 = some (r1, r2)) :
 Calls Tryd.prog 30 #[.int .i64 a0, .int .i64 a1, .slice A2 l2.length c2] w fun e w' => ∃ v0_ : Value, e = .returned (.tuple #[v0_, .int .i64 r2]) ∧ Kd.N (Kd.slice 5 (Kd.int .u8)) 22 w' w.heap.size (fun k_ => (w.heap.size ≤ k_)) v0_ r1 ∧ Below w.heap.size w w' := by
 unfold stripe_Split.f at h
 by_cases hby : -9223372036854775808 ≤ a0 ∧ byteRow l2 = true
 ·rw [if_pos hby] at h
  have hsp := Option.some.inj h
  obtain ⟨L, hL⟩ : ∃ L, L = l2.map toB := ⟨_, rfl⟩
  have hl2 : l2 = ofL L := by rw [hL]; exact (ofL_toB l2 hby.2).symm
  rw [← hL] at hsp
  clear hL h
  subst hl2
  have hlen : (ofL L).length = L.length := zG_ L
  have his : Aside0 (∀ W, Calls Tryd.prog 32 #[.int .i64 a0, .int .i64 a1] W fun e w' => e = .returned (.bool (codeB a0 a1)) ∧ Drawn0 W w') := ⟨fun W => stripe_is.calls a0 a1 _ W (is_eq a0 a1)⟩
  unfold splR at hsp
  have ha0 := hby.1
  clear hby
  cases hcb : codeB a0 a1 with
  | false =>
   rw [hcb] at hsp his
   rw [if_neg (by decide)] at hsp
   obtain ⟨rfl, rfl⟩ := Prod.mk.inj hsp
   clear hsp hr2
   go_enter Tryd.func30, Tryd.ntmps30
   go_wp2_with fail
   refine (his.out _).mono ?_
   rintro e w' ⟨rfl, ⟨nq, rfl⟩⟩
   clear his
   go_wp2
   go_ret2
   exact ⟨_, rfl, Kd.N_nil _ _ _ _ _, zA_ (Below.refl _ _) nq⟩
  | true =>
   obtain ⟨k, m, rfl, rfl, hk, hm, hkm⟩ := code_form hcb
   rw [hcb, if_pos rfl] at hsp
   rw [hcb] at his
   rw [Int.toNat_natCast] at hsp
   have hLen : Aside0 (∀ W, Calls Tryd.prog 31 #[.int .i64 (k : Int), .int .i64 (L.length : Int)] W fun e w' => e = .returned (.tuple #[.int .i64 (lenR (k : Int) (L.length : Int)).1, .int .i64 (lenR (k : Int) (L.length : Int)).2]) ∧ Drawn0 W w') := ⟨fun W => by
    obtain ⟨f, hf⟩ := (evLength (k : Int) (L.length : Int)).rounds
    exact stripe_Length.calls f _ _ _ _ W hf⟩
   rw [hlen]
   rw [hlen] at hc2
   unfold lenR at hLen
   rw [if_pos (by omega)] at hLen
   by_cases hbig : L.length > 4096
   ·rw [if_pos hbig] at hsp
    rw [if_pos (by omega)] at hLen
    obtain ⟨rfl, rfl⟩ := Prod.mk.inj hsp
    clear hsp hr2
    go_enter Tryd.func30, Tryd.ntmps30
    go_wp2_with fail
    refine (his.out _).mono ?_
    rintro e w' ⟨rfl, ⟨nq, rfl⟩⟩
    clear his
    go_wp2_with fail
    refine (hLen.out _).mono ?_
    rintro e w' ⟨rfl, ⟨nq2, rfl⟩⟩
    clear hLen
    go_wp2
    go_ret2
    exact ⟨_, rfl, Kd.N_nil _ _ _ _ _, zA_ (Below.refl _ _) (nq + nq2)⟩
   ·rw [if_neg hbig] at hsp
    rw [if_neg (by omega), Int.toNat_natCast, Int.toNat_natCast] at hLen
    obtain ⟨n, hn⟩ : ∃ n, n = lenS k L.length := ⟨_, rfl⟩
    rw [← hn] at hsp hLen
    have hu : n = nS k L.length * 16 := hn
    have hnb : n ≤ 70000 := by have := nS_le k L.length (by omega); omega
    obtain ⟨u, hu2⟩ : ∃ u, u = n / 16 := ⟨_, rfl⟩
    have hnu : n = u * 16 := by omega
    have hub : u ≤ 4096 := by have := nS_le k L.length (by omega); omega
    have HU := Aside0.mk hu2
    have HSP := Aside0.mk hsp
    have HC := Aside0.mk hr2
    clear hn hu hu2 hsp hr2 hcb
    have hd1 : ((n : Int) / 16) = (u : Int) := by omega
    have hd2 : Int.tdiv (n : Int) 16 = (u : Int) := by rw [Int.tdiv_eq_ediv_of_nonneg (by omega)]; exact hd1
    have hmk1 := print_make_of (P := Tryd.prog) 26 22 (.slice none 0 0) 24 Tryd.underlying26 Go.Proofs.YtnfgiamdmfkcjaaDoor.P.info22 rfl (by decide) k (by omega)
    have hmk2 := print_make_of (P := Tryd.prog) 22 5 (.int .u8 0) 1 Tryd.underlying22 Go.Proofs.YtnfgiamdmfkcjaaDoor.P.info5 rfl (by decide) n (by omega)
    have hnn : (0 : Int) ≤ (n : Int) := by omega
    have HNU := Aside0.mk hnu
    clear hnu
    go_enter Tryd.func30, Tryd.ntmps30
    go_wp2_with fail
    refine (his.out _).mono ?_
    rintro e w' ⟨rfl, ⟨nq, rfl⟩⟩
    clear his
    go_wp2_with fail
    refine (hLen.out _).mono ?_
    rintro e w' ⟨rfl, ⟨nq2, rfl⟩⟩
    clear hLen
    have HM0 : Aside0 (Mp ((w.drewN (nq + nq2)).alloc (.cells (madeCells #[.slice none 0 0] k) 22 (0, 0))) w.heap.size w.heap.size k k (fun _ => 0) (fun _ => 0) []) := ⟨Mp.fresh (W := w.drewN (nq + nq2)) (Nat.le_refl _) (by omega)⟩
    have HB0 : Aside0 (Below w.heap.size w ((w.drewN (nq + nq2)).alloc (.cells (madeCells #[.slice none 0 0] k) 22 (0, 0)))) := ⟨zC_ (zA_ (Below.refl _ _) _) _⟩
    go_wp2
    go_loopg [32] k (fun gg v32 w' => ∃ (i : Nat) (id cap : Nat → Nat), i + gg = k ∧ v32 = .int .i64 (i : Int) ∧ Aside0 (Mp w' w.heap.size w.heap.size k k id cap (rowsTo k n L i)) ∧ Aside0 (Below w.heap.size w w'))
    case atStart => exact ⟨0, _, _, Nat.zero_add _, rfl, HM0, HB0⟩
    case round =>
     clear HM0 HB0
     obtain ⟨i, id, cap, hig, rfl, HM, HB⟩ := hrel
     by_cases hi : i < k
     ·have hi' : (i : Int) < (k : Int) := by omega
      have hi0 : (0 : Int) ≤ (i : Int) := by omega
      have hM2 := HM.out.below ((Below.refl wr.heap.size wr).alloc (Nat.le_refl _) (.cells (madeCells #[.int .u8 0] n) 5 (0, 0)))
      obtain ⟨⟨u0, hu0⟩, hf0⟩ := hM2.free i hi
      have hadd := hM2.add (by rw [rowsTo_length]; exact hi) (Rw.fresh (W := wr) (n := n) (zF_ HB.out) (by omega)) (fun j hj => by have := (HM.out.rows j hj).lt; omega)
      rw [zG_, List.length_replicate, rowsTo_length, ← spR_zero k n L i] at hadd
      have HADD := Aside0.mk hadd
      have HB2 : Aside0 (Below w.heap.size w ((wr.alloc (.cells (madeCells #[.int .u8 0] n) 5 (0, 0))).setCell ⟨w.heap.size, i, none⟩ (.slice (some ⟨wr.heap.size, 0, none⟩) n n))) := ⟨(zC_ HB.out _).setCell (Nat.le_refl _) _⟩
      clear hM2 hadd HM HB
      go_wp2
      clear hu0 hf0
      obtain ⟨id', hid'⟩ : ∃ id', id' = up id i wr.heap.size := ⟨_, rfl⟩
      obtain ⟨cap', hcap'⟩ : ∃ cap', cap' = up cap i n := ⟨_, rfl⟩
      rw [← hid', ← hcap'] at HADD
      clear hid' hcap'
      generalize (wr.alloc (.cells (madeCells #[.int .u8 0] n) 5 (0, 0))).setCell ⟨w.heap.size, i, none⟩ (.slice (some ⟨wr.heap.size, 0, none⟩) n n) = w5 at *
      go_loopg [42] u (fun gg v42 w' => ∃ (s : Nat), s + gg = u ∧ v42 = .int .i64 (s : Int) ∧ Aside0 (Mp w' w.heap.size w.heap.size k k id' cap' (rowsTo k n L i ++ [ofL (spR k n L i s)])) ∧ Aside0 (Below w.heap.size w w'))
      case atStart => exact ⟨0, Nat.zero_add _, rfl, HADD, HB2⟩
      case round =>
       clear HADD HB2
       obtain ⟨s, hsg, rfl, HM, HB⟩ := hrel
       by_cases hs : s < u
       ·have hs' : (s : Int) < (u : Int) := by omega
        have hs0 : (0 : Int) ≤ (s : Int) := by omega
        obtain ⟨q, hq⟩ : ∃ q, q = s * k := ⟨_, rfl⟩
        have hqb : q ≤ 4096 * 255 := by rw [hq]; exact Nat.mul_le_mul (by omega) (by omega)
        have hq1 : IntKind.i64.wrap ((s : Int) * (k : Int)) = (q : Int) := by rw [show (s : Int) * (k : Int) = (q : Int) by rw [hq, Int.natCast_mul]]; exact IntWalk.i64_in _ (by omega)
        have HQ := Aside0.mk hq
        clear hq
        by_cases hat : (q + i) * 16 < L.length
        ·have hat' : ((q : Int) + (i : Int)) * 16 < (L.length : Int) := by omega
         obtain ⟨at_, hatq⟩ : ∃ at_, at_ = (q + i) * 16 := ⟨_, rfl⟩
         have hx1 : ((q : Int) + (i : Int)) * 16 = (at_ : Int) := by omega
         obtain ⟨ad, rfl, _⟩ := HC.out.2.2 (by rw [zG_]; omega)
         have hrun2 := from_run ad L.length c2 at_ (by omega) hc2 (((q : Int) + (i : Int)) * 16) hx1
         have hlast : (rowsTo k n L i ++ [ofL (spR k n L i s)]).getD i [] = ofL (spR k n L i s) := by
          rw [List.getD_eq_getElem?_getD, List.getElem?_append_right (by rw [rowsTo_length]; omega), rowsTo_length, Nat.sub_self]
          rfl
         have hil : i < (rowsTo k n L i ++ [ofL (spR k n L i s)]).length := by rw [List.length_append, rowsTo_length]; simp
         have hcell := (HM.out.at_ i hil).1
         unfold sl at hcell
         rw [hlast, zG_, spR_length] at hcell
         have hrw := HM.out.rows i hil
         rw [hlast] at hrw
         have hcap := hrw.reads.2
         rw [zG_, spR_length] at hcap
         have hsn : (s + 1) * 16 ≤ n := by have := HNU.out; omega
         have hrun1 := lo_hi_run (id' i) n (cap' i) (s * 16) (by omega) hcap ((s : Int) * 16) (((s : Int) + 1) * 16) (by omega) (by omega)
         have HRW := Aside0.mk hrw
         have HLA := Aside0.mk (show _ ∧ _ from ⟨hlast, hil⟩)
         have HNX : Aside0 (Go.splice (spR k n L i s) (s * 16) ((L.drop at_).take 16) = spR k n L i (s + 1)) := ⟨by rw [hatq, HQ.out]; exact spR_next k n L i s hsn (by rw [← HQ.out]; exact hat)⟩
         have HAT := Aside0.mk (show at_ < L.length from by omega)
         have HSN := Aside0.mk (show _ ∧ _ from ⟨hsn, hcap⟩)
         have hw1 : IntKind.i64.wrap ((s : Int) * 16) = (s : Int) * 16 := IntWalk.i64_in _ (by omega)
         have hw2 : IntKind.i64.wrap ((s : Int) + 1) = (s : Int) + 1 := IntWalk.i64_in _ (by omega)
         have hw3 : IntKind.i64.wrap (((s : Int) + 1) * 16) = ((s : Int) + 1) * 16 := IntWalk.i64_in _ (by omega)
         clear hrw hlast hil hcap hsn hat hatq hx1
         go_upto_region 16 with (fail)
         go_still_tail 13, (by kernel_rfl)
         change wpList _ _ _ _ _ wr.drew
         clear hrun1 hrun2 hcell hw1 hw2 hw3
         have HM6 : Aside0 (Mp wr.drew w.heap.size w.heap.size k k id' cap' (rowsTo k n L i ++ [ofL (spR k n L i s)])) := ⟨HM.out.below (below_drew (Below.refl _ _))⟩
         have HRW6 : Aside0 (Rw wr.drew w.heap.size (id' i) (cap' i) (ofL (spR k n L i s))) := ⟨HRW.out⟩
         have HB6 : Aside0 (Below w.heap.size w wr.drew) := ⟨below_drew HB.out⟩
         clear HM HRW HB
         generalize wr.drew = w6 at *
         obtain ⟨cur, hcur, hcopy⟩ := HRW6.out.splice
         obtain ⟨c1, c3⟩ := hcopy (s * 16) (ofL ((L.drop at_).take 16)) (by rw [zG_, zG_, List.length_take, spR_length]; have := HSN.out.1; omega)
         rw [← ofL_splice, HNX.out] at c3
         have HC3 := Aside0.mk c3
         have HGS := Aside0.mk (HRW6.out.base_)
         refine wpList_copy_own rfl (.tmp 64) (.tmp 67) 22 22 rfl 5 Tryd.underlying22 (by kernel_rfl) (id' i) (s * 16) 16 (cap' i - s * 16) (ad.add at_) (L.length - at_) (c2 - at_) rfl rfl cur 5 hcur (encs (Value.int .u8) (ofL ((L.drop at_).take 16))) (by rw [show (encs (Value.int .u8) (ofL ((L.drop at_).take 16))).length = ((L.drop at_).take 16).length by simp [encs, ofL], List.length_take, List.length_drop]; exact Nat.min_comm _ _) (src_cells HC.out HB6.out at_) (by simpa [encs] using c1) (fun v hv => by
          unfold encs at hv
          obtain ⟨x, _, rfl⟩ := List.mem_map.1 hv
          rfl) ?_
         have HM7 := Aside0.mk (HM6.out.copy HLA.out.2 (s := ofL (spR k n L i (s + 1))) (by rw [HLA.out.1, zG_, zG_, spR_length, spR_length]) HC3.out)
         have HB7 := Aside0.mk (below_setRow HB6.out HGS.out (cur.toList.take (s * 16) ++ (encs (Value.int .u8) (ofL ((L.drop at_).take 16)) ++ cur.toList.drop (s * 16 + (ofL ((L.drop at_).take 16)).length))).toArray)
         have hel : (encs (Value.int .u8) (ofL ((L.drop at_).take 16))).length = (ofL ((L.drop at_).take 16)).length := by simp [encs]
         rw [hel]
         clear hel hcur c1 c3 hcopy HC3 HM6 HB6 HRW6
         generalize w6.setRow (id' i) (cur.toList.take (s * 16) ++ (encs (Value.int .u8) (ofL ((L.drop at_).take 16)) ++ cur.toList.drop (s * 16 + (ofL ((L.drop at_).take 16)).length))).toArray = w7 at *
         go_wp2
         go_roundg (u - (s + 1))
         case measure => omega
         case rel => exact ⟨s + 1, by omega, by go_num, ⟨by
          have := HM7.out
          rw [show (rowsTo k n L i ++ [ofL (spR k n L i s)]).set i (ofL (spR k n L i (s + 1))) = rowsTo k n L i ++ [ofL (spR k n L i (s + 1))] by
           rw [List.set_append_right _ _ (by rw [rowsTo_length]; omega), rowsTo_length, Nat.sub_self]
           rfl] at this
          exact this⟩, HB7⟩
        ·have HN : Aside0 (spR k n L i (s + 1) = spR k n L i s) := ⟨spR_skip k n L i s (by rw [← HQ.out]; omega)⟩
         have hat' : ¬ (((q : Int) + (i : Int)) * 16 < (L.length : Int)) := by omega
         clear hat
         go_wp2
         go_roundg (u - (s + 1))
         case measure => omega
         case rel => exact ⟨s + 1, by omega, by go_num, ⟨by rw [HN.out]; exact HM.out⟩, HB⟩
       ·have hs' : ¬ (s : Int) < (u : Int) := by omega
        have hsu : s = n / 16 := by have := HU.out; omega
        have HM2 : Aside0 (Mp wr w.heap.size w.heap.size k k id' cap' (rowsTo k n L (i + 1))) := ⟨by have := HM.out; rw [hsu, rowsTo_next] at this; exact this⟩
        clear hsu HM hsg
        go_wp2
        go_roundg (k - (i + 1))
        case measure => omega
        case rel => exact ⟨i + 1, id', cap', by omega, by go_num, HM2, HB⟩
     ·have hi' : ¬ (i : Int) < (k : Int) := by omega
      have hik : i = k := by omega
      have hM := HM.out
      rw [hik] at hM
      have hMt := hM.full (rowsTo_length k n L k)
      rw [rowsTo_all] at hMt
      have hC := (Kd.S_reads' hMt.to_S).2.2
      have hle := (Kd.S_reads' hMt.to_S).2.1
      have henc : Aside0 (Calls Tryd.prog 54 #[.int .i64 (k : Int), .int .i64 (m : Int), .slice (some ⟨w.heap.size, 0, none⟩) k k] wr fun e w' => ∃ v, e = .returned (.tuple #[v, .int .i64 r2]) ∧ Kd.N (Kd.slice 5 (Kd.int .u8)) 22 w' wr.heap.size (fun k_ => wr.heap.size ≤ k_) v r1 ∧ Below wr.heap.size wr w') := ⟨by
       obtain ⟨f, hf⟩ := (evEncode (k : Int) (m : Int) (by omega) (spM k n L) (fun i hi => by rw [(spM_reg k n L).1] at hi; rw [(spM_reg k n L).2 i hi]; omega)).rounds
       rw [HSP.out] at hf
       have := code_Encode.calls f (k : Int) (m : Int) _ k (oM (spM k n L)) r1 r2 wr hC hle hf
       rw [oM_length, (spM_reg k n L).1] at this
       exact this⟩
      clear hik hM hMt hC hle HM hig
      go_wp2_with fail
      refine henc.out.mono ?_
      rintro e w' ⟨v, rfl, hN, hb⟩
      have HN := Aside0.mk hN
      have HB2 := Aside0.mk (below_then HB.out (zF_ HB.out) hb)
      have hsz := zF_ HB.out
      have HSZ := Aside0.mk hsz
      clear hN hb hsz henc
      go_wp2
      go_ret2
      exact ⟨_, rfl, Kd.N_lower (Kd.N_mono HN.out (fun q hq => Nat.le_trans HSZ.out hq)) HSZ.out, HB2.out⟩
 ·rw [if_neg hby] at h
  cases h
end Go.Proofs.YtnfgiamdmfkcjaaDoor.H
