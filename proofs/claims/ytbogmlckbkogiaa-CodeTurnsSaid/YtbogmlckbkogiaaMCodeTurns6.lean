/- Words and walks that the claim CodeTurns leans on (what it does not use is left out). -/
import Derived.Test.YtbogmlckbkogiaaMCodeTurns5
import Derived.Test.YtbogmlckbkogiaaMCodeTurns3
import Derived.Test.YtbogmlckbkogiaaMCodeTurns1
import Derived.Test.YtbogmlckbkogiaaMCodeTurns2
namespace Go.Proofs.Ytbogmlckbkogiaa.Red
open Go.RowKit Go.Proofs.YtbogmlckbkogiaaW.PrintWords Go.Proofs.Ytbogmlckbkogiaa.Leaf Go.Proofs.Ytbogmlckbkogiaa.Gf Go.Proofs.Ytbogmlckbkogiaa.H Go.Proofs.Ytbogmlckbkogiaa.Mx Go.Proofs.Ytbogmlckbkogiaa.P
set_option linter.unusedVariables false
set_option linter.unusedSimpArgs false
def cauM (k m : Nat) : Mat := matF (k + m) k (cau k m)
def cauR (a b : Int) : List (List Int) × Int := if 1 ≤ a ∧ 1 ≤ b ∧ b ≤ 255 - a then (oM (cauM a.toNat b.toNat), 0) else ([], 1)
theorem byte_nat (v : Nat) : ((v : Int) % 256) = ofB (BitVec.ofNat 8 v) := by
  unfold ofB
  rw [BitVec.toNat_ofNat]
  omega
/-- A row of the code's matrix on its way. -/
def caR (k m i j : Nat) : List B := (List.range k).map fun b => if b < j then cau k m (k + i) b else 0#8
theorem caR_set (k m i j : Nat) (hj : j < k) : (caR k m i j).set j (inv (BitVec.ofNat 8 i ^^^ BitVec.ofNat 8 (m + j))) = caR k m i (j + 1) := by
  refine ext0 (by simp [caR]) fun b hb => ?_
  rw [List.length_set] at hb
  have hb' : b < k := by simpa [caR] using hb
  have e : ∀ j', at0 (caR k m i j') b = if b < j' then cau k m (k + i) b else 0#8 := fun j' => at0_map _ _ _ hb'
  rw [at0_set _ _ _ _ (by simpa [caR] using hj), e, e]
  by_cases e1 : j = b
  · subst e1
    rw [if_pos rfl, if_pos (by omega)]
    unfold cau
    rw [if_neg (by omega), show k + i - k = i by omega]
  · rw [if_neg e1]
    by_cases e2 : b < j
    · rw [if_pos e2, if_pos (by omega)]
    · rw [if_neg e2, if_neg (by omega)]
theorem caR_all (k m i : Nat) : caR k m i k = (List.range k).map (cau k m (k + i)) := List.map_congr_left fun b hb => if_pos (List.mem_range.1 hb)
theorem cau_next (k m i : Nat) : matF (k + i) k (cau k m) ++ [(List.range k).map (cau k m (k + i))] = matF (k + (i + 1)) k (cau k m) := by
  unfold matF; rw [show k + (i + 1) = (k + i) + 1 by omega, List.range_succ, List.map_append]; rfl
theorem cauchy_l1 (k m : Nat) (hk : k + m ≤ 255) (r : List (List Int) × Int) (i : Nat) (hi : i < m) (hnext : Ev (fun f => matrix_Cauchy.l0 f (k : Int) (m : Int) (oM (matF (k + (i + 1)) k (cau k m))) (m : Int) ((i + 1 : Nat) : Int)) r) (d : Nat) : ∀ j : Nat, j + d = k →
    Ev (fun f => matrix_Cauchy.l1 f (k : Int) (m : Int) (oM (matF (k + i) k (cau k m))) (i : Int) (ofL (caR k m i j)) (m : Int) (i : Int) (k : Int) (j : Int)) r := by
  induction d with
  | zero =>
    intro j hj
    obtain rfl : j = k := by omega
    refine Ev.step (f := fun f => matrix_Cauchy.l0 f (j : Int) (m : Int) (oM (matF (j + (i + 1)) j (cau j m))) (m : Int) ((i + 1 : Nat) : Int)) (fun f => ?_) hnext
    simp only [matrix_Cauchy.l1, oM_length, (matF_reg (j + i) j (cau j m)).1]
    rw [if_neg (by omega), if_pos (by omega), oM_one, oM_append, caR_all, cau_next, w64 _ (by omega) (by omega)]
    rfl
  | succ d ih =>
    intro j hj
    refine Ev.step (f := fun f => matrix_Cauchy.l1 f (k : Int) (m : Int) (oM (matF (k + i) k (cau k m))) (i : Int) (ofL (caR k m i (j + 1))) (m : Int) (i : Int) (k : Int) ((j + 1 : Nat) : Int)) (fun f => ?_) (ih (j + 1) (by omega))
    have hl : (caR k m i j).length = k := by simp [caR]
    simp only [matrix_Cauchy.l1, ofL_length, hl, Int.toNat_natCast]
    rw [if_pos (by omega), w64 ((m : Int) + (j : Int)) (by omega) (by omega), show ((m : Int) + (j : Int)) = ((m + j : Nat) : Int) by omega, byte_nat, byte_nat, xor_ofB, gfInv_eq, Option.bind_some, if_pos (by omega), if_pos (by omega), w64 _ (by omega) (by omega)]
    simp only []
    rw [ofL_set, caR_set k m i j (by omega)]
    rfl
theorem cauchy_l0 (k m : Nat) (hk : k + m ≤ 255) (d : Nat) : ∀ i : Nat, i + d = m → Ev (fun f => matrix_Cauchy.l0 f (k : Int) (m : Int) (oM (matF (k + i) k (cau k m))) (m : Int) (i : Int)) (oM (cauM k m), 0) := by
  induction d with
  | zero =>
    intro i hi
    obtain rfl : i = m := by omega
    refine Ev.step (f := fun _ => some (oM (cauM k i), 0)) (fun f => ?_) (Ev.now _)
    simp only [matrix_Cauchy.l0]
    rw [if_neg (by omega)]
    rfl
  | succ d ih =>
    intro i hi
    refine Ev.step (f := fun f => matrix_Cauchy.l1 f (k : Int) (m : Int) (oM (matF (k + i) k (cau k m))) (i : Int) (ofL (caR k m i 0)) (m : Int) (i : Int) (k : Int) ((0 : Nat) : Int)) (fun f => ?_) (cauchy_l1 k m hk _ i (by omega) (ih (i + 1) (by omega)) k 0 (by omega))
    simp only [matrix_Cauchy.l0, Int.toNat_natCast]
    have e : List.replicate k (0 : Int) = ofL (caR k m i 0) := by
      rw [ofL_replicate]
      congr 1
      refine List.ext_getElem (by simp [caR]) fun b h1 h2 => ?_
      simp [caR]
    rw [if_pos (by omega), if_pos (by omega), if_pos (by omega), e]
    rfl
theorem cau_id (k m : Nat) : idM k = matF (k + 0) k (cau k m) := by
  rw [idM_eq]
  refine mat_ext (matF_reg k k I) (matF_reg k k _) fun i j hi hj => ?_
  rw [el_matF _ hi hj, show matF (k + 0) k (cau k m) = matF k k (cau k m) from rfl, el_matF (cau k m) hi hj]
  unfold cau
  rw [if_pos hi]
theorem evCauchy (a b : Int) (ha : -9223372036854775808 ≤ a) : Ev (fun f => matrix_Cauchy.f f a b) (cauR a b) := by
  unfold matrix_Cauchy.f cauR
  have j1 : Ev (fun f => matrix_Cauchy.j0 f a b true) ([], 1) := Ev.step (f := fun _ => some ([], 1)) (fun f => by simp only [matrix_Cauchy.j0, if_true]) (Ev.now _)
  by_cases h1 : a < 1
  · simp only [show (a < 1) = True from eq_true h1, if_true]
    rw [if_neg (by omega)]
    exact j1
  simp only [show (a < 1) = False from eq_false h1, if_false]
  by_cases h2 : b < 1
  · simp only [show (b < 1) = True from eq_true h2, if_true]
    rw [if_neg (by omega)]
    exact j1
  simp only [show (b < 1) = False from eq_false h2, if_false]
  by_cases h3 : a > 255
  · simp only [show (a > 255) = True from eq_true h3, if_true]
    rw [if_neg (by omega)]
    exact j1
  simp only [show (a > 255) = False from eq_false h3, if_false]
  rw [w64 _ (by omega) (by omega)]
  by_cases h4 : b > 255 - a
  · simp only [show decide (b > 255 - a) = true from decide_eq_true h4]
    rw [if_neg (by omega)]
    exact j1
  simp only [show decide (b > 255 - a) = false from decide_eq_false h4]
  rw [if_pos (by omega)]
  obtain ⟨k, rfl⟩ := Int.eq_ofNat_of_zero_le (show 0 ≤ a by omega)
  obtain ⟨m, rfl⟩ := Int.eq_ofNat_of_zero_le (show 0 ≤ b by omega)
  rw [Int.toNat_natCast, Int.toNat_natCast]
  refine Ev.step (f := fun f => (matrix_Identity.f f (k : Int)).bind fun bt101 => matrix_Cauchy.l0 f (k : Int) (m : Int) bt101.1 (m : Int) 0) (fun f => by simp only [matrix_Cauchy.j0, Bool.false_eq_true, if_false]) ?_
  refine Ev.bind (evIdentity (k : Int)) ?_
  unfold idR
  rw [if_pos (by omega), Int.toNat_natCast]
  simp only []
  rw [cau_id k m]
  exact cauchy_l0 k m (by omega) m 0 (by omega)
theorem xor_byte (i n : Nat) : BitVec.ofNat 8 (i ^^^ n) = BitVec.ofNat 8 i ^^^ BitVec.ofNat 8 n := by
  apply BitVec.eq_of_toNat_eq
  rw [BitVec.toNat_xor, BitVec.toNat_ofNat, BitVec.toNat_ofNat, BitVec.toNat_ofNat]
  exact Nat.xor_mod_two_pow
theorem refCauchy_l1 (k m : Nat) (hk : k + m ≤ 255) (r : List (List Int) × Int) (i : Nat) (hi : i < m) (hnext : Ev (fun f => mooringref02_Cauchy.l0 f (k : Int) (m : Int) (oM (matF (k + (i + 1)) k (cau k m))) ((i + 1 : Nat) : Int)) r) (d : Nat) : ∀ j : Nat, j + d = k →
    Ev (fun f => mooringref02_Cauchy.l1 f (k : Int) (m : Int) (oM (matF (k + i) k (cau k m))) (i : Int) (ofL ((List.range j).map (cau k m (k + i)))) (j : Int)) r := by
  induction d with
  | zero =>
    intro j hj
    obtain rfl : j = k := by omega
    refine Ev.step (f := fun f => mooringref02_Cauchy.l0 f (j : Int) (m : Int) (oM (matF (j + (i + 1)) j (cau j m))) ((i + 1 : Nat) : Int)) (fun f => ?_) hnext
    simp only [mooringref02_Cauchy.l1, oM_length, (matF_reg (j + i) j (cau j m)).1]
    rw [if_neg (by omega), if_pos (by omega), oM_one, oM_append, cau_next, w64 _ (by omega) (by omega)]
    rfl
  | succ d ih =>
    intro j hj
    refine Ev.step (f := fun f => (mooringref01_Inv.f f (ofB (BitVec.ofNat 8 i ^^^ BitVec.ofNat 8 (m + j)))).bind fun bt107 => mooringref02_Cauchy.l1 f (k : Int) (m : Int) (oM (matF (k + i) k (cau k m))) (i : Int) (ofL ((List.range j).map (cau k m (k + i))) ++ [bt107.1]) ((j + 1 : Nat) : Int)) (fun f => ?_) ?_
    · have hl : ((List.range j).map (cau k m (k + i))).length = j := by simp
      simp only [mooringref02_Cauchy.l1, ofL_length, hl]
      rw [if_pos (by omega), w64 ((m : Int) + (j : Int)) (by omega) (by omega), show ((m : Int) + (j : Int)) = ((m + j : Nat) : Int) by omega, xor_i64_nat _ _ (by omega) (by omega), byte_nat, xor_byte]
      simp only [show (j < 140737488355328) = True from eq_true (by omega), if_true, w64 ((j : Int) + 1) (by omega) (by omega)]
      rfl
    · refine Ev.bind (refInv _) ?_
      have e : ofL ((List.range j).map (cau k m (k + i))) ++ [ofB (inv (BitVec.ofNat 8 i ^^^ BitVec.ofNat 8 (m + j)))] = ofL ((List.range (j + 1)).map (cau k m (k + i))) := by
        rw [List.range_succ, List.map_append]
        unfold ofL
        rw [List.map_append]
        simp only [List.map_cons, List.map_nil]
        unfold cau
        rw [if_neg (by omega), show k + i - k = i by omega]
      simp only []
      rw [e]
      exact ih (j + 1) (by omega)
theorem refCauchy_l0 (k m : Nat) (hk : k + m ≤ 255) (d : Nat) : ∀ i : Nat, i + d = m → Ev (fun f => mooringref02_Cauchy.l0 f (k : Int) (m : Int) (oM (matF (k + i) k (cau k m))) (i : Int)) (oM (cauM k m), 0) := by
  induction d with
  | zero =>
    intro i hi
    obtain rfl : i = m := by omega
    refine Ev.step (f := fun _ => some (oM (cauM k i), 0)) (fun f => ?_) (Ev.now _)
    simp only [mooringref02_Cauchy.l0]
    rw [if_neg (by omega)]
    rfl
  | succ d ih =>
    intro i hi
    refine Ev.step (f := fun f => mooringref02_Cauchy.l1 f (k : Int) (m : Int) (oM (matF (k + i) k (cau k m))) (i : Int) (ofL ((List.range 0).map (cau k m (k + i)))) ((0 : Nat) : Int)) (fun f => ?_) (refCauchy_l1 k m hk _ i (by omega) (ih (i + 1) (by omega)) k 0 (by omega))
    simp only [mooringref02_Cauchy.l0]
    rw [if_pos (by omega)]
    rfl
theorem evRefCauchy (a b : Int) (ha : -9223372036854775808 ≤ a) : Ev (fun f => mooringref02_Cauchy.f f a b) (cauR a b) := by
  unfold mooringref02_Cauchy.f cauR
  have j1 : Ev (fun f => mooringref02_Cauchy.j0 f a b true) ([], 1) := Ev.step (f := fun _ => some ([], 1)) (fun f => by simp only [mooringref02_Cauchy.j0, if_true]) (Ev.now _)
  by_cases h1 : a < 1
  · simp only [show (a < 1) = True from eq_true h1, if_true]
    rw [if_neg (by omega)]
    exact j1
  simp only [show (a < 1) = False from eq_false h1, if_false]
  by_cases h2 : b < 1
  · simp only [show (b < 1) = True from eq_true h2, if_true]
    rw [if_neg (by omega)]
    exact j1
  simp only [show (b < 1) = False from eq_false h2, if_false]
  by_cases h3 : a > 254
  · simp only [show (a > 254) = True from eq_true h3, if_true]
    rw [if_neg (by omega)]
    exact j1
  simp only [show (a > 254) = False from eq_false h3, if_false]
  rw [w64 _ (by omega) (by omega)]
  by_cases h4 : b > 255 - a
  · simp only [show decide (b > 255 - a) = true from decide_eq_true h4]
    rw [if_neg (by omega)]
    exact j1
  simp only [show decide (b > 255 - a) = false from decide_eq_false h4]
  rw [if_pos (by omega)]
  obtain ⟨k, rfl⟩ := Int.eq_ofNat_of_zero_le (show 0 ≤ a by omega)
  obtain ⟨m, rfl⟩ := Int.eq_ofNat_of_zero_le (show 0 ≤ b by omega)
  rw [Int.toNat_natCast, Int.toNat_natCast]
  refine Ev.step (f := fun f => (mooringref02_Identity.f f (k : Int)).bind fun t101 => mooringref02_Cauchy.l0 f (k : Int) (m : Int) t101 0) (fun f => by simp only [mooringref02_Cauchy.j0, Bool.false_eq_true, if_false]) ?_
  refine Ev.bind (evRefIdentity k (by omega)) ?_
  rw [cau_id k m]
  exact refCauchy_l0 k m (by omega) m 0 (by omega)
theorem cauM_reg (k m : Nat) : Reg (cauM k m) (k + m) k := matF_reg _ _ _
end Go.Proofs.Ytbogmlckbkogiaa.Red
namespace Go.Proofs.Ytbogmlckbkogiaa.Red
open Go.RowKit Go.Proofs.YtbogmlckbkogiaaW.PrintWords Go.Proofs.Ytbogmlckbkogiaa.Leaf Go.Proofs.Ytbogmlckbkogiaa.Gf Go.Proofs.Ytbogmlckbkogiaa.H Go.Proofs.Ytbogmlckbkogiaa.Mx Go.Proofs.Ytbogmlckbkogiaa.P
set_option linter.unusedVariables false
set_option linter.unusedSimpArgs false
/-- A product on its way, row by row. -/
def stC (n m p : Nat) (A C : Mat) (i : Nat) (r : List B) : Mat := (List.range n).map fun a => if a < i then (List.range p).map (mm m (el A) (el C) a) else if a = i then r else []
def rwC (m p : Nat) (A C : Mat) (i k : Nat) : List B := (List.range p).map fun b => sm k (fun l => mul (el A i l) (el C l b))
theorem stC_length (n m p : Nat) (A C : Mat) (i : Nat) (r : List B) : (stC n m p A C i r).length = n := by simp [stC]
theorem row_stC (n m p : Nat) (A C : Mat) (i : Nat) (r : List B) (hi : i < n) : row (stC n m p A C i r) i = r := by
  unfold stC
  rw [row_map _ _ _ hi, if_neg (by omega), if_pos rfl]
theorem stC_set (n m p : Nat) (A C : Mat) (i : Nat) (r s : List B) (hi : i < n) : (stC n m p A C i r).set i s = stC n m p A C i s := by
  refine List.ext_getElem (by simp [stC]) fun a h1 h2 => ?_
  simp only [stC, List.getElem_set, List.getElem_map, List.getElem_range]
  by_cases e : i = a
  · subst e; simp
  · by_cases e2 : a < i
    · simp [e, e2]
    · simp [e, e2, Ne.symm e]
theorem stC_next (n m p : Nat) (A C : Mat) (i : Nat) : stC n m p A C i (rwC m p A C i m) = stC n m p A C (i + 1) [] := by
  refine List.ext_getElem (by simp [stC]) fun a h1 h2 => ?_
  simp only [stC, List.getElem_map, List.getElem_range]
  by_cases e : a < i
  · rw [if_pos e, if_pos (by omega)]
  · rw [if_neg e]
    by_cases e2 : a = i
    · rw [if_pos e2, if_pos (by omega), e2]; rfl
    · rw [if_neg e2, if_neg (by omega)]
      by_cases e3 : a = i + 1
      · rw [if_pos e3]
      · rw [if_neg e3]
theorem stC_all (n m p : Nat) (A C : Mat) : stC n m p A C n [] = matF n p (mm m (el A) (el C)) := by
  unfold stC matF
  exact List.map_congr_left fun a ha => if_pos (List.mem_range.1 ha)
theorem rwC_step (m p : Nat) (A C : Mat) (hC : Reg C m p) (i k : Nat) (hk : k < m) : am (rwC m p A C i k) (row C k) (el A i k) (rwC m p A C i k).length = rwC m p A C i (k + 1) := by
  refine ext0 (by rw [am_length]; simp [rwC]) fun b hb => ?_
  rw [am_length] at hb
  have hb' : b < p := by simpa [rwC] using hb
  rw [am_at _ _ _ _ hb]
  unfold rwC
  rw [at0_map _ _ _ hb', at0_map _ _ _ hb']
  simp only [sm]
  rw [mul_comm (el A i k)]
  rfl
theorem comb_l1 {n m p : Nat} {A C : Mat} (hA : Reg A n m) (hC : Reg C m p) (hn : n ≤ 255) (hm : m ≤ 255) (hp : p ≤ 140737488355327) (r : List (List Int)) (i : Nat) (hi : i < n)
    (hnext : Ev (fun k => code_combine.l0 k (oM C) (oM (stC n m p A C (i + 1) [])) (oM A) (n : Int) ((i + 1 : Nat) : Int)) r) (d : Nat) : ∀ k : Nat, k + d = m →
    Ev (fun f => code_combine.l1 f (oM C) (oM (stC n m p A C i (rwC m p A C i k))) (i : Int) (oM A) (n : Int) (i : Int) (ofL (row A i)) (m : Int) (k : Int)) r := by
  induction d with
  | zero =>
    intro k hk
    obtain rfl : k = m := by omega
    refine Ev.step (f := fun f => code_combine.l0 f (oM C) (oM (stC n k p A C (i + 1) [])) (oM A) (n : Int) ((i + 1 : Nat) : Int)) (fun f => ?_) hnext
    simp only [code_combine.l1]
    rw [if_neg (by omega), stC_next, w64 _ (by omega) (by omega)]
    rfl
  | succ d ih =>
    intro k hk
    have hl : (rwC m p A C i k).length = p := by simp [rwC]
    refine Ev.step (f := fun f => (gf_AddMul.f f (ofL (rwC m p A C i k)) (ofL (row C k)) (ofB (el A i k))).bind fun bt112 => code_combine.l1 f (oM C) ((oM (stC n m p A C i (rwC m p A C i k))).set i bt112.1) (i : Int) (oM A) (n : Int) (i : Int) (ofL (row A i)) (m : Int) ((k + 1 : Nat) : Int)) (fun f => ?_) ?_
    · simp only [code_combine.l1, ofL_length, oM_length, rd_oM, rd_ofL, hA.2 i hi, stC_length, hC.1, Int.toNat_natCast, row_stC _ _ _ _ _ _ _ hi]
      rw [if_pos (by omega), if_pos (by omega), if_pos (by omega), if_pos (by omega), if_pos (by omega), if_pos (by omega), w64 _ (by omega) (by omega)]
      rfl
    · refine Ev.bind (gfAddMul _ _ _ (by rw [hl]; omega)) ?_
      unfold addMulB
      rw [if_pos (by rw [hl, hC.2 k (by omega)])]
      simp only []
      rw [oM_set, stC_set _ _ _ _ _ _ _ _ hi, rwC_step m p A C hC i k (by omega)]
      exact ih (k + 1) (by omega)
theorem comb_l0 {n m p : Nat} {A C : Mat} (hA : Reg A n m) (hC : Reg C m p) (hn : n ≤ 255) (hm0 : 0 < m) (hm : m ≤ 255) (hp : p ≤ 140737488355327) (d : Nat) : ∀ i : Nat, i + d = n →
    Ev (fun k => code_combine.l0 k (oM C) (oM (stC n m p A C i [])) (oM A) (n : Int) (i : Int)) (oM (matF n p (mm m (el A) (el C)))) := by
  induction d with
  | zero =>
    intro i hi
    obtain rfl : i = n := by omega
    refine Ev.step (f := fun _ => some (oM (matF i p (mm m (el A) (el C))))) (fun k => ?_) (Ev.now _)
    simp only [code_combine.l0]
    rw [if_neg (by omega), stC_all]
  | succ d ih =>
    intro i hi
    refine Ev.step (f := fun f => code_combine.l1 f (oM C) (oM (stC n m p A C i (rwC m p A C i 0))) (i : Int) (oM A) (n : Int) (i : Int) (ofL (row A i)) (m : Int) ((0 : Nat) : Int)) (fun f => ?_) (comb_l1 hA hC hn hm hp _ i (by omega) (ih (i + 1) (by omega)) m 0 (by omega))
    simp only [code_combine.l0, oM_length, rd_oM, rd_oM0, ofL_length, hA.1, hA.2 i (by omega), hC.1, hC.2 0 hm0, stC_length, Int.toNat_natCast]
    have e : List.replicate p (0 : Int) = ofL (rwC m p A C i 0) := by
      rw [ofL_replicate]
      congr 1
      refine List.ext_getElem (by simp [rwC]) fun b h1 h2 => ?_
      simp [rwC, sm]
    rw [if_pos (by omega), if_pos (by omega), if_pos (by omega), if_pos (by omega), if_pos (by omega), if_pos (by omega), if_pos (by omega), e, oM_set, stC_set _ _ _ _ _ _ _ _ (by omega)]
    rfl
theorem evCombine {n m p : Nat} {A C : Mat} (hA : Reg A n m) (hC : Reg C m p) (hn : n ≤ 255) (hm0 : 0 < m) (hm : m ≤ 255) (hp : p ≤ 140737488355327) : Ev (fun k => code_combine.f k (oM A) (oM C)) (oM (mulM A C)) := by
  unfold code_combine.f
  simp only [oM_length, hA.1, Int.toNat_natCast, show ((0 : Int) ≤ (n : Int)) = True from eq_true (by omega), if_true, show (n ≤ 11728124029610) = True from eq_true (by omega)]
  have e : List.replicate n ([] : List Int) = oM (stC n m p A C 0 []) := by
    unfold oM
    refine List.ext_getElem (by simp [stC]) fun a h1 h2 => ?_
    simp [stC]
    rfl
  rw [e]
  have e2 : mulM A C = matF n p (mm m (el A) (el C)) := by unfold mulM; rw [hA.1, hC.1, hC.2 0 hm0]
  rw [e2]
  exact comb_l0 hA hC hn hm0 hm hp n 0 (by omega)
def evenB (D : Mat) (n : Int) : Bool := ((D.length : Int) == n) && (List.range D.length).all fun i => (row D i).length == (row D 0).length
theorem evenB_iff (D : Mat) (k : Nat) : evenB D (k : Int) = true ↔ Reg D k (row D 0).length := by
  unfold evenB Reg
  simp only [Bool.and_eq_true, beq_iff_eq, List.all_eq_true, List.mem_range]
  constructor
  · rintro ⟨h1, h2⟩
    have e : D.length = k := by omega
    exact ⟨e, fun i hi => h2 i (by omega)⟩
  · rintro ⟨h1, h2⟩
    exact ⟨by omega, fun i hi => h2 i (by omega)⟩
theorem code_even_eq (D : Mat) (n : Int) (hn : 0 < n) : code_even.f (oM D) n = some (evenB D n) := by
  unfold code_even.f evenB
  rw [oM_length, decide_eq_true hn, Bool.and_true]
  congr 1
  congr 1
  rw [List.not_any_eq_all_not]
  refine List.all_congr rfl ?_
  intro i
  unfold unevenAt
  have e : ∀ j, (oM D).getD j [] = ofL (row D j) := fun j => map_getD D j
  rw [e, e, ofL_length, ofL_length, Bool.eq_iff_iff]
  simp only [Bool.not_eq_true', bne_eq_false_iff_eq, beq_iff_eq]
  omega
theorem even_ok (D : Mat) (hs : D.length ≤ 9223372036854775807) (h : ∀ j, j < D.length → (row D j).length = (row D 0).length) (n : Nat) : ∀ i : Nat, i + n = D.length → Ev (fun k => mooringref03_even.l0 k (oM D) (i : Int)) true := by
  induction n with
  | zero =>
    intro i hi
    refine Ev.step (f := fun _ => some true) (fun k => ?_) (Ev.now _)
    simp only [mooringref03_even.l0, oM_length]
    rw [if_neg (by omega)]
  | succ n ih =>
    intro i hi
    have hi' := h i (by omega)
    refine Ev.step (f := fun k => mooringref03_even.l0 k (oM D) ((i + 1 : Nat) : Int)) (fun k => ?_) (ih (i + 1) (by omega))
    simp only [mooringref03_even.l0, oM_length, rd_oM, rd_oM0, ofL_length]
    rw [if_pos (by omega), if_pos (by omega), if_pos (by omega), if_pos (by omega), w64 _ (by omega) (by omega)]
    rfl
theorem even_bad (D : Mat) (hs : D.length ≤ 9223372036854775807) (j : Nat) (hj : j < D.length) (hne : (row D j).length ≠ (row D 0).length) (n : Nat) : ∀ i : Nat, i + n = j → Ev (fun k => mooringref03_even.l0 k (oM D) (i : Int)) false := by
  induction n with
  | zero =>
    intro i hi
    obtain rfl : i = j := by omega
    refine Ev.step (f := fun _ => some false) (fun k => ?_) (Ev.now _)
    simp only [mooringref03_even.l0, oM_length, rd_oM, rd_oM0, ofL_length]
    rw [if_pos (by omega), if_pos (by omega), if_pos (by omega), if_neg (by omega)]
  | succ n ih =>
    intro i hi
    by_cases he : (row D i).length = (row D 0).length
    · refine Ev.step (f := fun k => mooringref03_even.l0 k (oM D) ((i + 1 : Nat) : Int)) (fun k => ?_) (ih (i + 1) (by omega))
      simp only [mooringref03_even.l0, oM_length, rd_oM, rd_oM0, ofL_length]
      rw [if_pos (by omega), if_pos (by omega), if_pos (by omega), if_pos (by omega), w64 _ (by omega) (by omega)]
      rfl
    · refine Ev.step (f := fun _ => some false) (fun k => ?_) (Ev.now _)
      simp only [mooringref03_even.l0, oM_length, rd_oM, rd_oM0, ofL_length]
      rw [if_pos (by omega), if_pos (by omega), if_pos (by omega), if_neg (by omega)]
theorem evRefEven (D : Mat) (hs : D.length ≤ 9223372036854775807) (n : Int) : Ev (fun k => mooringref03_even.f k (oM D) n) (evenB D n) := by
  unfold mooringref03_even.f evenB
  simp only [oM_length]
  by_cases h1 : (D.length : Int) = n
  · simp only [h1, if_true, beq_self_eq_true, Bool.true_and]
    by_cases h2 : ∀ j, j < D.length → (row D j).length = (row D 0).length
    · rw [show ((List.range D.length).all fun i => (row D i).length == (row D 0).length) = true by simpa [List.all_eq_true] using h2]
      exact even_ok D hs h2 D.length 0 (by omega)
    · obtain ⟨j, hj, hne⟩ := uneven h2
      rw [show ((List.range D.length).all fun i => (row D i).length == (row D 0).length) = false by
        rw [List.all_eq_false]
        exact ⟨j, List.mem_range.2 hj, by simpa using hne⟩]
      exact even_bad D hs j hj hne j 0 (by omega)
  · simp only [h1, if_false]
    rw [beq_eq_false_iff_ne.2 h1, Bool.false_and]
    exact Ev.now _
def codeB (a b : Int) : Bool := decide (1 ≤ a) && decide (1 ≤ b) && decide (b ≤ 255 - a)
theorem code_eq (a b : Int) (ha : -9223372036854775808 ≤ a) : mooringref03_Code.f a b = some (codeB a b) := by
  unfold mooringref03_Code.f codeB
  by_cases h1 : a ≥ 1
  · rw [if_pos h1, decide_eq_true (show 1 ≤ a from h1)]
    by_cases h2 : b ≥ 1
    · rw [if_pos h2, decide_eq_true (show 1 ≤ b from h2)]
      by_cases h3 : a ≤ 254
      · rw [if_pos h3, w64 _ (by omega) (by omega)]; simp
      · rw [if_neg h3, decide_eq_false (by omega)]; rfl
    · rw [if_neg h2, decide_eq_false (show ¬ 1 ≤ b by omega)]; rw [Bool.and_false, Bool.false_and]
  · rw [if_neg h1, decide_eq_false (show ¬ 1 ≤ a by omega), Bool.false_and, Bool.false_and]
theorem codeB_form (a b : Int) : (codeB a b = true ∧ ∃ k m : Nat, a = (k : Int) ∧ b = (m : Int) ∧ 1 ≤ k ∧ 1 ≤ m ∧ k + m ≤ 255 ∧ cauR a b = (oM (cauM k m), 0)) ∨ (codeB a b = false ∧ cauR a b = (oM [], 1)) := by
  unfold codeB cauR
  by_cases h : 1 ≤ a ∧ 1 ≤ b ∧ b ≤ 255 - a
  · rw [if_pos h]
    exact .inl ⟨by simp [h], a.toNat, b.toNat, by omega, by omega, by omega, by omega, by omega, rfl⟩
  · rw [if_neg h]
    refine .inr ⟨?_, rfl⟩
    rw [← Bool.not_eq_true]
    simpa [and_assoc] using h
def encR (a b : Int) (D : Mat) : List (List Int) × Int := if codeB a b = true ∧ evenB D a = true then (oM (mulM (cauM a.toNat b.toNat) D), 0) else ([], 1)
theorem evEncode (a b : Int) (ha : -9223372036854775808 ≤ a) (D : Mat) (hr : ∀ i, i < D.length → (row D i).length ≤ 140737488355327) : Ev (fun k => code_Encode.f k a b (oM D)) (encR a b D) := by
  unfold code_Encode.f encR
  refine Ev.bind (evCauchy a b ha) ?_
  rcases codeB_form a b with ⟨h1, k, m, rfl, rfl, hk, hm, h, e⟩ | ⟨h1, e⟩
  · rw [e]
    simp only [if_true, h1, true_and, code_even_eq D (k : Int) (by omega), Option.bind_some]
    by_cases h2 : evenB D (k : Int) = true
    · simp only [h2, if_true, Int.toNat_natCast]
      have hD := (evenB_iff D k).1 h2
      refine Ev.bind (evCombine (cauM_reg k m) hD h (by omega) (by omega) (by have := hr 0 (by rw [hD.1]; omega); omega)) ?_
      exact Ev.now _
    · simp only [h2, if_false]
      exact Ev.now _
  · rw [e]
    simp only [h1, show ((1 : Int) = 0) = False from eq_false (by decide), if_false, Bool.false_eq_true, false_and]
    exact Ev.now _
theorem enc_l2 {n k p : Nat} {A D : Mat} (hA : Reg A n k) (hD : Reg D k p) (hk : k ≤ 255) (hp : p ≤ 140737488355327) (a0 a1 : Int) (ha : a0 = (k : Int)) (r : List (List Int) × Int) (X : List (List Int)) (i : Nat) (hi : i < n) (R : List B) (at_ : Nat) (hat : at_ < p) (hR : R.length = p)
    (hnext : Ev (fun f => mooringref03_Encode.l1 f a0 a1 (oM D) (oM A) X (i : Int) (ofL (R.set at_ (mm k (el A) (el D) i at_))) ((at_ + 1 : Nat) : Int)) r) (d : Nat) : ∀ j : Nat, j + d = k →
    Ev (fun f => mooringref03_Encode.l2 f a0 a1 (oM D) (oM A) X (i : Int) (ofL (R.set at_ (sm j (fun l => mul (el A i l) (el D l at_))))) (at_ : Int) (j : Int)) r := by
  induction d with
  | zero =>
    intro j hj
    obtain rfl : j = k := by omega
    refine Ev.step (f := fun f => mooringref03_Encode.l1 f a0 a1 (oM D) (oM A) X (i : Int) (ofL (R.set at_ (mm j (el A) (el D) i at_))) ((at_ + 1 : Nat) : Int)) (fun f => ?_) hnext
    simp only [mooringref03_Encode.l2, ha]
    rw [if_neg (by omega), w64 _ (by omega) (by omega)]
    rfl
  | succ d ih =>
    intro j hj
    refine Ev.step (f := fun f => (mooringref01_Mul.f f (ofB (el A i j)) (ofB (el D j at_))).bind fun t122 => mooringref03_Encode.l2 f a0 a1 (oM D) (oM A) X (i : Int) ((ofL (R.set at_ (sm j (fun l => mul (el A i l) (el D l at_))))).set at_ (Go.bits .xor .u8 (ofB (sm j (fun l => mul (el A i l) (el D l at_)))) t122)) (at_ : Int) ((j + 1 : Nat) : Int)) (fun f => ?_) ?_
    · have e : at0 (R.set at_ (sm j (fun l => mul (el A i l) (el D l at_)))) at_ = sm j (fun l => mul (el A i l) (el D l at_)) := by rw [at0_set _ _ _ _ (by omega), if_pos rfl]
      simp only [mooringref03_Encode.l2, oM_length, hA.1, hD.1, rd_oM, rd_ofL, ofL_length, List.length_set, hA.2 i hi, hD.2 j (by omega), hR, Int.toNat_natCast, e, ha]
      rw [if_pos (by omega), if_pos (by omega), if_pos (by omega), if_pos (by omega), if_pos (by omega), if_pos (by omega), if_pos (by omega), if_pos (by omega), if_pos (by omega), w64 _ (by omega) (by omega)]
      rfl
    · refine Ev.bind (refMul _ _) ?_
      rw [xor_ofB, ofL_set, List.set_set]
      exact ih (j + 1) (by omega)
def rwE (k p : Nat) (A D : Mat) (i at_ : Nat) : List B := (List.range p).map fun b => if b < at_ then mm k (el A) (el D) i b else 0#8
theorem rwE_set (k p : Nat) (A D : Mat) (i at_ : Nat) (h : at_ < p) : (rwE k p A D i at_).set at_ (mm k (el A) (el D) i at_) = rwE k p A D i (at_ + 1) := by
  refine ext0 (by simp [rwE]) fun b hb => ?_
  rw [List.length_set] at hb
  have hb' : b < p := by simpa [rwE] using hb
  have e : ∀ c, at0 (rwE k p A D i c) b = if b < c then mm k (el A) (el D) i b else 0#8 := fun c => at0_map _ _ _ hb'
  rw [at0_set _ _ _ _ (by simpa [rwE] using h), e, e]
  by_cases e1 : at_ = b
  · subst e1
    rw [if_pos rfl, if_pos (by omega)]
  · rw [if_neg e1]
    by_cases e2 : b < at_
    · rw [if_pos e2, if_pos (by omega)]
    · rw [if_neg e2, if_neg (by omega)]
theorem rwE_zero (k p : Nat) (A D : Mat) (i at_ : Nat) (h : at_ < p) : (rwE k p A D i at_).set at_ 0#8 = rwE k p A D i at_ := by
  refine ext0 (by simp [rwE]) fun b hb => ?_
  rw [List.length_set] at hb
  have hb' : b < p := by simpa [rwE] using hb
  have e : ∀ c, at0 (rwE k p A D i c) b = if b < c then mm k (el A) (el D) i b else 0#8 := fun c => at0_map _ _ _ hb'
  rw [at0_set _ _ _ _ (by simpa [rwE] using h), e]
  by_cases e1 : at_ = b
  · rw [if_pos e1, if_neg (by omega)]
  · rw [if_neg e1]
theorem enc_l1 {n k p : Nat} {A D : Mat} (hA : Reg A n k) (hD : Reg D k p) (hn : n ≤ 255) (hk : k ≤ 255) (hp : p ≤ 140737488355327) (a0 a1 : Int) (ha : a0 = (k : Int)) (r : List (List Int) × Int) (i : Nat) (hi : i < n)
    (hnext : Ev (fun f => mooringref03_Encode.l0 f a0 a1 (oM D) (oM A) (oM (matF (i + 1) p (mm k (el A) (el D)))) ((i + 1 : Nat) : Int)) r) (d : Nat) : ∀ at_ : Nat, at_ + d = p →
    Ev (fun f => mooringref03_Encode.l1 f a0 a1 (oM D) (oM A) (oM (matF i p (mm k (el A) (el D)))) (i : Int) (ofL (rwE k p A D i at_)) (at_ : Int)) r := by
  induction d with
  | zero =>
    intro at_ hat
    obtain rfl : at_ = p := by omega
    refine Ev.step (f := fun f => mooringref03_Encode.l0 f a0 a1 (oM D) (oM A) (oM (matF (i + 1) at_ (mm k (el A) (el D)))) ((i + 1 : Nat) : Int)) (fun f => ?_) hnext
    have hl : (rwE k at_ A D i at_).length = at_ := by simp [rwE]
    have e : rwE k at_ A D i at_ = (List.range at_).map (mm k (el A) (el D) i) := List.map_congr_left fun b hb => if_pos (List.mem_range.1 hb)
    have e2 : matF i at_ (mm k (el A) (el D)) ++ [(List.range at_).map (mm k (el A) (el D) i)] = matF (i + 1) at_ (mm k (el A) (el D)) := by unfold matF; rw [List.range_succ, List.map_append]; rfl
    simp only [mooringref03_Encode.l1, ofL_length, hl, oM_length, (matF_reg i at_ (mm k (el A) (el D))).1]
    rw [if_neg (by omega), if_pos (by omega), oM_one, oM_append, e, e2, w64 _ (by omega) (by omega)]
    rfl
  | succ d ih =>
    intro at_ hat
    have hl : (rwE k p A D i at_).length = p := by simp [rwE]
    refine Ev.step (f := fun f => mooringref03_Encode.l2 f a0 a1 (oM D) (oM A) (oM (matF i p (mm k (el A) (el D)))) (i : Int) (ofL ((rwE k p A D i at_).set at_ (sm 0 (fun l => mul (el A i l) (el D l at_))))) (at_ : Int) ((0 : Nat) : Int)) (fun f => ?_) (enc_l2 hA hD hk hp a0 a1 ha r _ i hi _ at_ (by omega) hl ?_ k 0 (by omega))
    · simp only [mooringref03_Encode.l1, ofL_length, hl, sm, rwE_zero k p A D i at_ (by omega)]
      rw [if_pos (by omega)]
      rfl
    · rw [rwE_set k p A D i at_ (by omega)]
      exact ih (at_ + 1) (by omega)
theorem enc_l0 {n k p : Nat} {A D : Mat} (hA : Reg A n k) (hD : Reg D k p) (hn : n ≤ 255) (hk0 : 0 < k) (hk : k ≤ 255) (hp : p ≤ 140737488355327) (a0 a1 : Int) (ha : a0 = (k : Int)) (hw : wrap64 (a0 + a1) = (n : Int)) (d : Nat) : ∀ i : Nat, i + d = n →
    Ev (fun f => mooringref03_Encode.l0 f a0 a1 (oM D) (oM A) (oM (matF i p (mm k (el A) (el D)))) (i : Int)) (oM (matF n p (mm k (el A) (el D))), 0) := by
  induction d with
  | zero =>
    intro i hi
    obtain rfl : i = n := by omega
    refine Ev.step (f := fun _ => some (oM (matF i p (mm k (el A) (el D))), 0)) (fun f => ?_) (Ev.now _)
    simp only [mooringref03_Encode.l0, hw]
    rw [if_neg (by omega)]
  | succ d ih =>
    intro i hi
    refine Ev.step (f := fun f => mooringref03_Encode.l1 f a0 a1 (oM D) (oM A) (oM (matF i p (mm k (el A) (el D)))) (i : Int) (ofL (rwE k p A D i 0)) ((0 : Nat) : Int)) (fun f => ?_) (enc_l1 hA hD hn hk hp a0 a1 ha _ i (by omega) (ih (i + 1) (by omega)) p 0 (by omega))
    have e : List.replicate p (0 : Int) = ofL (rwE k p A D i 0) := by
      rw [ofL_replicate]
      congr 1
      refine List.ext_getElem (by simp [rwE]) fun b h1 h2 => ?_
      simp [rwE]
    simp only [mooringref03_Encode.l0, hw, oM_length, hD.1, rd_oM0, ofL_length, hD.2 0 hk0, Int.toNat_natCast]
    rw [if_pos (by omega), if_pos (by omega), if_pos (by omega), if_pos (by omega), e]
    rfl
theorem evRefEncode (a b : Int) (ha : -9223372036854775808 ≤ a) (D : Mat) (hs : D.length ≤ 9223372036854775807) (hr : ∀ i, i < D.length → (row D i).length ≤ 140737488355327) : Ev (fun k => mooringref03_Encode.f k a b (oM D)) (encR a b D) := by
  have j1 : Ev (fun f => mooringref03_Encode.j0 f a b (oM D) true) ([], 1) := Ev.step (f := fun _ => some ([], 1)) (fun f => by simp only [mooringref03_Encode.j0, if_true]) (Ev.now _)
  unfold mooringref03_Encode.f encR
  simp only [code_eq a b ha, Option.bind_some]
  rcases codeB_form a b with ⟨h1, k, m, rfl, rfl, hk, hm, h, e⟩ | ⟨h1, e⟩
  · simp only [h1, if_true, true_and]
    refine Ev.bind (evRefEven D hs (k : Int)) ?_
    by_cases h2 : evenB D (k : Int) = true
    · simp only [h2, if_true, Bool.not_true, Int.toNat_natCast]
      have hD := (evenB_iff D k).1 h2
      refine Ev.step (f := fun f => (mooringref02_Cauchy.f f (k : Int) (m : Int)).bind fun bt103 => mooringref03_Encode.l0 f (k : Int) (m : Int) (oM D) bt103.1 [] 0) (fun f => by simp only [mooringref03_Encode.j0, Bool.false_eq_true, if_false]) ?_
      refine Ev.bind (evRefCauchy (k : Int) (m : Int) (by omega)) ?_
      rw [e]
      simp only []
      have e2 : mulM (cauM k m) D = matF (k + m) (row D 0).length (mm k (el (cauM k m)) (el D)) := by unfold mulM; rw [(cauM_reg k m).1, hD.1]
      rw [e2]
      exact enc_l0 (cauM_reg k m) hD h (by omega) (by omega) (by have := hr 0 (by rw [hD.1]; omega); omega) (k : Int) (m : Int) rfl (by rw [w64 _ (by omega) (by omega)]; omega) (k + m) 0 (by omega)
    · simp only [h2, Bool.false_eq_true, if_false, Bool.not_false]
      exact j1
  · simp only [h1, Bool.false_eq_true, if_false, false_and]
    exact j1
end Go.Proofs.Ytbogmlckbkogiaa.Red
namespace Go.Proofs.Ytbogmlckbkogiaa.Red
open Go.RowKit Go.Proofs.YtbogmlckbkogiaaW.PrintWords Go.Proofs.Ytbogmlckbkogiaa.Leaf Go.Proofs.Ytbogmlckbkogiaa.Gf Go.Proofs.Ytbogmlckbkogiaa.H Go.Proofs.Ytbogmlckbkogiaa.Mx Go.Proofs.Ytbogmlckbkogiaa.P
set_option linter.unusedVariables false
set_option linter.unusedSimpArgs false
/-- What Inverse tells of a square matrix whose rows do not cancel out. -/
theorem invR_yes {A : Mat} {n : Nat} (hA : Reg A n n) (hn : 0 < n) (hn2 : n ≤ 255) (h : (redF n 0 0 A (idM n)).1 = n) : ∃ X, invR A = (oM X, 0) ∧ Reg X n n ∧ mulM A X = idM n ∧ mulM X A = idM n := by
  obtain ⟨r1, r2, r3⟩ := inverse_yes hn hA h
  refine ⟨(redF n 0 0 A (idM n)).2.2, ?_, r1, ?_, ?_⟩
  · unfold invR
    rw [if_pos ⟨mayB_of hA hn hn2 hn hn2, by rw [hA.1, hA.2 0 hn]⟩, hA.1, if_neg (by omega)]
  · refine mat_ext (mulM_reg hA r1 hn) (matF_reg n n I) fun i j hi hj => ?_
    rw [el_mulM hA r1 hn hi hj, r3 i j hi hj, idM_eq, el_matF I hi hj]
  · refine mat_ext (mulM_reg r1 hA hn) (matF_reg n n I) fun i j hi hj => ?_
    rw [el_mulM r1 hA hn hi hj, r2 i j hi hj, idM_eq, el_matF I hi hj]
def ints (L : List Nat) : List Int := L.map fun (v : Nat) => (v : Int)
theorem ints_length (L : List Nat) : (ints L).length = L.length := List.length_map _
theorem row_rowsM (A : Mat) (L : List Nat) (i : Nat) (hi : i < L.length) : row (rowsM A (ints L)) i = row A (L.getD i 0) := by
  unfold rowsM ints
  rw [List.map_map]
  show (L.map _).getD i [] = _
  rw [List.getD_eq_getElem?_getD, List.getElem?_map, List.getD_eq_getElem?_getD, List.getElem?_eq_getElem hi]
  rfl
theorem rowsM_reg {A : Mat} {n m : Nat} (hA : Reg A n m) (L : List Nat) (h : ∀ v ∈ L, v < n) : Reg (rowsM A (ints L)) L.length m := by
  refine ⟨by unfold rowsM ints; rw [List.length_map, List.length_map], fun i hi => ?_⟩
  rw [row_rowsM A L i hi]
  exact hA.2 _ (h _ (getD_mem hi))
theorem cauM_may {k m : Nat} (hk : 1 ≤ k) (h : k + m ≤ 255) : mayB (cauM k m) = true := mayB_of (cauM_reg k m) (by omega) h hk (by omega)
theorem pick_inverse {k m : Nat} (hk : 1 ≤ k) (h : k + m ≤ 255) (L : List Nat) (hl : L.length = k) (hnd : L.Nodup) (hb : ∀ v ∈ L, v < k + m) :
    Reg (rowsM (cauM k m) (ints L)) k k ∧ ∃ X, invR (rowsM (cauM k m) (ints L)) = (oM X, 0) ∧ Reg X k k ∧ mulM (rowsM (cauM k m) (ints L)) X = idM k ∧ mulM X (rowsM (cauM k m) (ints L)) = idM k := by
  have hS : Reg (rowsM (cauM k m) (ints L)) k k := by
    have := rowsM_reg (cauM_reg k m) L hb
    rwa [hl] at this
  have hel : ∀ i j, i < k → j < k → el (rowsM (cauM k m) (ints L)) i j = cau k m (L.getD i 0) j := by
    intro i j hi hj
    unfold el
    rw [row_rowsM _ _ _ (by omega)]
    exact el_matF _ (hb _ (getD_mem (by omega))) hj
  refine ⟨hS, invR_yes hS (by omega) (by omega) ?_⟩
  have hle := redF_le (by omega) hS (matF_reg k k I)
  rw [← idM_eq] at hle
  by_cases hlt : (redF k 0 0 (rowsM (cauM k m) (ints L)) (idM k)).1 < k
  · obtain ⟨y, hy, i, hi, hne⟩ := inverse_no (by omega) hS (matF_reg k k I) hlt
    exfalso
    refine hne (cauchy_regular h L hl hnd hb y (fun j hj => ?_) i hi)
    rw [← hy j hj]
    exact sm_congr fun i' hi' => by rw [hel i' j hi' hj]
  · omega
end Go.Proofs.Ytbogmlckbkogiaa.Red
namespace Go.Proofs.Ytbogmlckbkogiaa.Red
open Go.RowKit Go.Proofs.YtbogmlckbkogiaaW.PrintWords Go.Proofs.Ytbogmlckbkogiaa.Leaf Go.Proofs.Ytbogmlckbkogiaa.Gf Go.Proofs.Ytbogmlckbkogiaa.H Go.Proofs.Ytbogmlckbkogiaa.Mx Go.Proofs.Ytbogmlckbkogiaa.P
set_option linter.unusedVariables false
set_option linter.unusedSimpArgs false
/-- The shards one has. -/
def selM (A : Mat) (H : List Bool) : Mat := (selN H H.length).map fun i => row A i
theorem selL_oM (A : Mat) (H : List Bool) : selL (oM A) H H.length = oM (selM A H) := by
  unfold selL selM oM
  rw [List.map_map]
  refine List.map_congr_left fun i _ => ?_
  exact rd_oM A i
theorem selR_ints (H : List Bool) (k : Nat) : (selR H H.length).take k = ints ((selN H H.length).take k) := by
  unfold selR ints
  rw [List.map_take]
theorem selN_nodup (H : List Bool) (s : Nat) : (selN H s).Nodup := List.Nodup.sublist List.filter_sublist List.nodup_range
theorem selN_lt {H : List Bool} {s v : Nat} (h : v ∈ selN H s) : v < s := List.mem_range.1 (List.mem_filter.1 h).1
theorem selM_length (A : Mat) (H : List Bool) : (selM A H).length = (selN H H.length).length := List.length_map _
/-- The rows of the code's matrix that belong to the first k shards one has. -/
def picM (k m : Nat) (H : List Bool) : Mat := rowsM (cauM k m) (ints ((selN H H.length).take k))
def decM (k m : Nat) (A : Mat) (H : List Bool) : Mat := mulM (cauM k m) (mulM (unM (invR (picM k m H)).1) ((selM A H).take k))
theorem pic_inverse {k m : Nat} (hk : 1 ≤ k) (h : k + m ≤ 255) {H : List Bool} (hH : H.length = k + m) (hn : k ≤ (selN H H.length).length) :
    rowsR (cauM k m) (ints ((selN H H.length).take k)) = (oM (picM k m H), 0) ∧ Reg (picM k m H) k k ∧ ∃ X, invR (picM k m H) = (oM X, 0) ∧ Reg X k k ∧ mulM (picM k m H) X = idM k ∧ mulM X (picM k m H) = idM k := by
  have hl : ((selN H H.length).take k).length = k := by rw [List.length_take]; omega
  have hb : ∀ v ∈ (selN H H.length).take k, v < k + m := fun v hv => by
    have := selN_lt (List.mem_of_mem_take hv)
    omega
  have hp := pick_inverse hk h ((selN H H.length).take k) hl (List.Nodup.sublist (List.take_sublist _ _) (selN_nodup H H.length)) hb
  refine ⟨?_, hp.1, hp.2⟩
  unfold rowsR
  rw [if_pos]
  · rfl
  · unfold rowsB
    rw [cauM_may hk h, ints_length, hl, decide_eq_true (by omega), decide_eq_true (by omega)]
    rw [Bool.true_and, Bool.true_and, Bool.true_and, List.all_eq_true]
    intro x hx
    obtain ⟨v, hv, rfl⟩ := List.mem_map.1 hx
    have := hb v hv
    rw [(cauM_reg k m).1, decide_eq_true (by omega), decide_eq_true (by omega)]
    rfl
theorem even_reg {D : Mat} (h : code_even.f (oM D) (D.length : Int) = some true) (h0 : 0 < D.length) : Reg D D.length (row D 0).length := by
  rw [code_even_eq D _ (by omega)] at h
  exact (evenB_iff D D.length).1 (Option.some.inj h)
theorem reg_take {D : Mat} {n p k : Nat} (h : Reg D n p) (hk : k ≤ n) : Reg (D.take k) k p := by
  refine ⟨by rw [List.length_take, h.1]; omega, fun i hi => ?_⟩
  have := h.2 i (by omega)
  have e : row (D.take k) i = row D i := by
    unfold row
    rw [List.getD_eq_getElem?_getD, List.getElem?_take_of_lt hi, List.getD_eq_getElem?_getD]
  rw [e]
  exact this
def evD (A : Mat) (H : List Bool) : Bool := ((code_even.f (oM (selM A H)) ((selM A H).length : Int)).getD false)
theorem row_len {A : Mat} {H : List Bool} (hr : ∀ i, i < A.length → (row A i).length ≤ 140737488355327) (i : Nat) (hi : i < (selM A H).length) : (row (selM A H) i).length ≤ 140737488355327 := by
  unfold selM at hi ⊢
  rw [List.length_map] at hi
  have e : row ((selN H H.length).map fun i => row A i) i = row A ((selN H H.length)[i]) := by
    show (((selN H H.length).map fun i => row A i).getD i []) = _
    rw [List.getD_eq_getElem?_getD, List.getElem?_map, List.getElem?_eq_getElem hi]
    rfl
  rw [e]
  by_cases h : (selN H H.length)[i] < A.length
  · exact hr _ h
  · have : row A ((selN H H.length)[i]) = [] := by
      unfold row
      rw [List.getD_eq_getElem?_getD, List.getElem?_eq_none (by omega)]
      rfl
    rw [this]
    exact Nat.zero_le _
theorem dec_facts (k m : Int) (hk : -9223372036854775808 ≤ k) (A : Mat) (hr : ∀ i, i < A.length → (row A i).length ≤ 140737488355327) (H : List Bool) :
    DecFacts k m (oM A) H (cauR k m).1 (cauR k m).2 (evD A H) (oM (picM k.toNat m.toNat H)) (invR (picM k.toNat m.toNat H)).1 (oM (mulM (unM (invR (picM k.toNat m.toNat H)).1) ((selM A H).take k.toNat))) (oM (decM k.toNat m.toNat A H)) 0 (invR (picM k.toNat m.toNat H)).2 := by
  have hrng : (cauR k m).2 = 0 → 1 ≤ k ∧ 1 ≤ m ∧ k + m ≤ 255 := fun h => by
    unfold cauR at h
    by_cases h1 : 1 ≤ k ∧ 1 ≤ m ∧ m ≤ 255 - k
    · omega
    · rw [if_neg h1] at h
      exact absurd h (by decide)
  have heven : code_even.f (selL (oM A) H H.length) ((selL (oM A) H H.length).length : Int) = some (evD A H) := by
    rw [selL_oM, oM_length]
    unfold evD code_even.f
    rfl
  have hcau : (cauR k m).2 = 0 → (cauR k m).1 = oM (cauM k.toNat m.toNat) := fun h => by
    have := hrng h
    unfold cauR
    rw [if_pos (by omega)]
  have hlen : (selL (oM A) H H.length).length = (selN H H.length).length := by unfold selL; rw [List.length_map]
  refine ⟨evCauchy k m hk, hrng, heven, fun h0 he hS hH hl => ?_, matrix_Inverse.f_oM _, fun h0 he hS hH hl => ?_, fun h0 he hS hH hl => ?_⟩
  · have hg := hrng h0
    obtain ⟨kn, rfl⟩ := Int.eq_ofNat_of_zero_le (show 0 ≤ k by omega)
    obtain ⟨mn, rfl⟩ := Int.eq_ofNat_of_zero_le (show 0 ≤ m by omega)
    rw [hcau h0, selR_ints]
    simp only [Int.toNat_natCast]
    have hp := pic_inverse (k := kn) (m := mn) (by omega) (by omega) (H := H) (by omega) (by omega)
    have h := evRows (cauM kn mn) (by rw [(cauM_reg kn mn).1]; omega) (ints ((selN H H.length).take kn))
    rw [hp.1] at h
    exact h
  · have hg := hrng h0
    obtain ⟨kn, rfl⟩ := Int.eq_ofNat_of_zero_le (show 0 ≤ k by omega)
    obtain ⟨mn, rfl⟩ := Int.eq_ofNat_of_zero_le (show 0 ≤ m by omega)
    obtain ⟨_, _, X, hX, hR, _⟩ := pic_inverse (k := kn) (m := mn) (by omega) (by omega) (H := H) (by omega) (by omega)
    simp only [Int.toNat_natCast]
    have hlen2 : kn ≤ (selM A H).length := by rw [selM_length]; omega
    rw [he, selL_oM, oM_length] at heven
    have hD := even_reg heven (by omega)
    rw [hX, unM_oM, selL_oM]
    have e : (oM (selM A H)).take kn = oM ((selM A H).take kn) := by unfold oM; rw [List.map_take]
    rw [e]
    exact evCombine hR (reg_take hD hlen2) (by omega) (by omega) (by omega) (row_len hr 0 (by omega))
  · have hg := hrng h0
    rw [hcau h0]
    obtain ⟨kn, rfl⟩ := Int.eq_ofNat_of_zero_le (show 0 ≤ k by omega)
    obtain ⟨mn, rfl⟩ := Int.eq_ofNat_of_zero_le (show 0 ≤ m by omega)
    obtain ⟨_, _, X, hX, hR, _⟩ := pic_inverse (k := kn) (m := mn) (by omega) (by omega) (H := H) (by omega) (by omega)
    unfold decM
    simp only [Int.toNat_natCast]
    have hlen2 : kn ≤ (selM A H).length := by rw [selM_length]; omega
    rw [he, selL_oM, oM_length] at heven
    have hD := even_reg heven (by omega)
    rw [hX, unM_oM]
    exact evCombine (cauM_reg kn mn) (mulM_reg hR (reg_take hD hlen2) (by omega)) (by omega) (by omega) (by omega) (row_len hr 0 (by omega))
/-- What Decode answers. -/
def decR (k m : Int) (A : Mat) (H : List Bool) : List (List Int) × Int :=
  if codeB k m = true ∧ (A.length : Int) = k + m ∧ (H.length : Int) = k + m then
    (if 0 < (selM A H).length ∧ evD A H = false then ([], 1) else if ((selM A H).length : Int) < k then ([], 4) else (oM (decM k.toNat m.toNat A H), 0))
  else ([], 1)
theorem decO_eq (k m : Int) (A : Mat) (H : List Bool) : decO k m (oM A) H (cauR k m).2 (evD A H) (oM (decM k.toNat m.toNat A H)) = decR k m A H := by
  unfold decO decR
  rw [selL_oM, oM_length, oM_length]
  rcases codeB_form k m with ⟨h1, k', m', rfl, rfl, _, _, _, e⟩ | ⟨h1, e⟩
  · rw [e, h1]
    simp only [true_and]
  · rw [e, h1]
    rw [if_neg (fun h => absurd h.1 (by decide)), if_neg (fun h => absurd h.1 (by decide))]
end Go.Proofs.Ytbogmlckbkogiaa.Red
namespace Go.Proofs.Ytbogmlckbkogiaa.H
open Go.RowKit Go.Proofs.YtbogmlckbkogiaaW.PrintWords Go.Proofs.Ytbogmlckbkogiaa.Leaf Go.Proofs.Ytbogmlckbkogiaa.Gf Go.Proofs.Ytbogmlckbkogiaa.Red Go.Proofs.Ytbogmlckbkogiaa.Mx Go.Proofs.Ytbogmlckbkogiaa.P
def code_Decode.f (a0 a1 : Int) (l2 : List (List Int)) (l3 : List Bool) : Option (List (List Int) × Int) :=
  if l2.all byteRow = true ∧ -9223372036854775808 ≤ a0 ∧ (l2.all fun r => decide (r.length ≤ 140737488355327)) = true then some (decR a0 a1 (unM l2) l3) else none
theorem code_Decode.calls (a0 : Int) (a1 : Int) (A2 : Option Addr) (c2 : Nat) (l2 : List (List Int)) (A3 : Option Addr) (c3 : Nat) (l3 : List Bool) (r1 : List (List Int)) (r2 : Int) (w : World) (hr2 : Kd.C (Kd.slice 5 (Kd.int .u8)) w A2 l2.length l2) (hc2 : l2.length ≤ c2) (hr3 : Kd.C Kd.bool w A3 l3.length l3) (hc3 : l3.length ≤ c3) (h : code_Decode.f a0 a1 l2 l3 = some (r1, r2)) :
    Calls Try.prog 77 #[.int .i64 a0, .int .i64 a1, .slice A2 l2.length c2, .slice A3 l3.length c3] w fun e w' => ∃ v0_ : Value, e = .returned (.tuple #[v0_, .int .i64 r2]) ∧ Kd.N (Kd.slice 5 (Kd.int .u8)) 22 w' w.heap.size (fun k_ => (w.heap.size ≤ k_)) v0_ r1 ∧ Below w.heap.size w w' := by
  unfold code_Decode.f at h
  by_cases hby : l2.all byteRow = true ∧ -9223372036854775808 ≤ a0 ∧ (l2.all fun r => decide (r.length ≤ 140737488355327)) = true
  · rw [if_pos hby] at h
    obtain ⟨hb, ha, hl⟩ := hby
    obtain ⟨A, rfl⟩ : ∃ A : Mat, l2 = oM A := ⟨unM l2, (oM_unM l2 hb).symm⟩
    rw [unM_oM] at h
    have hr : ∀ i, i < A.length → (row A i).length ≤ 140737488355327 := fun i hi => by
      have hm : ofL (A[i]) ∈ oM A := List.mem_map.2 ⟨_, List.getElem_mem hi, rfl⟩
      have h2 := of_decide_eq_true (List.all_eq_true.1 hl _ hm)
      rw [ofL_length] at h2
      have e : row A i = A[i] := by unfold row; rw [List.getD_eq_getElem?_getD, List.getElem?_eq_getElem hi]; rfl
      rw [e]
      exact h2
    have hc := Decode.calls a0 a1 A2 c2 (oM A) A3 c3 l3 _ _ _ _ _ _ _ _ _ w hr2 hc2 hr3 hc3 (dec_facts a0 a1 ha A hr l3)
    rw [decO_eq, Option.some.inj h] at hc
    exact hc
  · rw [if_neg hby] at h
    cases h
end Go.Proofs.Ytbogmlckbkogiaa.H
namespace Go.Proofs.Ytbogmlckbkogiaa.P
open Go.Proofs.Ytbogmlckbkogiaa.H
open Go.Proofs.Ytbogmlckbkogiaa.Leaf
open Go.RowKit Go.Proofs.YtbogmlckbkogiaaW.PrintWords Go.Proofs.YtbogmlckbkogiaaW.PrintLast Go.Proofs.YtbogmlckbkogiaaW.PrintMore
attribute [local go_sem] max2_int min2_int max_two min_two max_three min_three max_four min_four   -- for this text's walks alone
set_option linter.unusedVariables false
set_option linter.unusedSimpArgs false
def mooringlaw03_awake.f (k : Nat)  : Option (Bool) := (code_Encode.f k 2 1 (([(([5] : List Int)), (([7] : List Int))] : List (List Int)))).bind fun bt110 => (if bt110.2 = 0 then (if (bt110.1.length : Int) = 3 then (if 2 < (bt110.1.length : Int) then (if ((rd_L1 bt110.1 2).length : Int) = 1 then (if 0 < (bt110.1.length : Int) then ((code_Decode.f 2 1 (bt110.1.set (0 : Int).toNat ([] : List Int)) (([false, true, true] : List Bool))).bind fun bt119 => (if bt119.2 = 0 then (if (bt119.1.length : Int) = 3 then (if 0 < (bt119.1.length : Int) then (if ((rd_L1 bt119.1 0).length : Int) = 1 then (if 0 < ((rd_L1 bt119.1 0).length : Int) then (some ((rd (rd_L1 bt119.1 0) 0) == 5)) else (none)) else (none)) else (none)) else (none)) else (none))) else (none)) else (none)) else (none)) else (none)) else (none))
theorem mooringlaw03_awake.mono : ∀ k, LeO (mooringlaw03_awake.f k ) (mooringlaw03_awake.f (k + 1) ) := by
  intro  k
  unfold mooringlaw03_awake.f
  repeat' first
      | (with_reducible exact code_Encode.mono _ _ _ _)
      | (with_reducible exact LeO.refl _)
      | (with_reducible exact LeO.none _)
      | (with_reducible refine LeO.ite ?_ ?_)
      | (with_reducible refine LeO.bind ?_ (fun _ => ?_))
      | exact code_Encode.mono _ _ _ _
      | exact LeO.none _
      | refine LeO.ite ?_ ?_
      | refine LeO.bind ?_ (fun _ => ?_)
set_option maxHeartbeats 8000000 in
set_option maxRecDepth 100000 in
theorem mooringlaw03_awake.calls (k : Nat)  (r : Bool) (w : World) (h : mooringlaw03_awake.f k  = some r) :
    Calls Try.prog 74 #[] w fun e w' => e = .returned (.bool r) ∧ Below w.heap.size w w' := by
  have HB := Aside0.mk (Below.refl w.heap.size w)
  have H : ((code_Encode.f k 2 1 (([(([5] : List Int)), (([7] : List Int))] : List (List Int)))).bind fun bt110 => (if bt110.2 = 0 then (if (bt110.1.length : Int) = 3 then (if 2 < (bt110.1.length : Int) then (if ((rd_L1 bt110.1 2).length : Int) = 1 then (if 0 < (bt110.1.length : Int) then ((code_Decode.f 2 1 (bt110.1.set (0 : Int).toNat ([] : List Int)) (([false, true, true] : List Bool))).bind fun bt119 => (if bt119.2 = 0 then (if (bt119.1.length : Int) = 3 then (if 0 < (bt119.1.length : Int) then (if ((rd_L1 bt119.1 0).length : Int) = 1 then (if 0 < ((rd_L1 bt119.1 0).length : Int) then (some ((rd (rd_L1 bt119.1 0) 0) == 5)) else (none)) else (none)) else (none)) else (none)) else (none))) else (none)) else (none)) else (none)) else (none)) else (none))) = some r := h
  clear h
  obtain ⟨y101, hy101⟩ : ∃ y_ : List Int, y_ = (([5] : List Int)) := ⟨_, rfl⟩
  replace H : ((code_Encode.f k 2 1 (([y101, (([7] : List Int))] : List (List Int)))).bind fun bt110 => (if bt110.2 = 0 then (if (bt110.1.length : Int) = 3 then (if 2 < (bt110.1.length : Int) then (if ((rd_L1 bt110.1 2).length : Int) = 1 then (if 0 < (bt110.1.length : Int) then ((code_Decode.f 2 1 (bt110.1.set (0 : Int).toNat ([] : List Int)) (([false, true, true] : List Bool))).bind fun bt119 => (if bt119.2 = 0 then (if (bt119.1.length : Int) = 3 then (if 0 < (bt119.1.length : Int) then (if ((rd_L1 bt119.1 0).length : Int) = 1 then (if 0 < ((rd_L1 bt119.1 0).length : Int) then (some ((rd (rd_L1 bt119.1 0) 0) == 5)) else (none)) else (none)) else (none)) else (none)) else (none))) else (none)) else (none)) else (none)) else (none)) else (none))) = some r := by first | (rw [hy101]; with_reducible exact H) | (have H2_ := (Option.bind_some _ _).symm.trans H; rw [hy101]; with_reducible exact H2_) | (have H2_ := (Option.bind_some _ _).symm.trans H; with_reducible exact H2_) | with_reducible exact H | (rw [hy101]; exact H) | exact H
  have Ny101 := Aside0.mk hy101
  clear hy101
  obtain ⟨y104, hy104⟩ : ∃ y_ : List Int, y_ = (([7] : List Int)) := ⟨_, rfl⟩
  replace H : ((code_Encode.f k 2 1 (([y101, y104] : List (List Int)))).bind fun bt110 => (if bt110.2 = 0 then (if (bt110.1.length : Int) = 3 then (if 2 < (bt110.1.length : Int) then (if ((rd_L1 bt110.1 2).length : Int) = 1 then (if 0 < (bt110.1.length : Int) then ((code_Decode.f 2 1 (bt110.1.set (0 : Int).toNat ([] : List Int)) (([false, true, true] : List Bool))).bind fun bt119 => (if bt119.2 = 0 then (if (bt119.1.length : Int) = 3 then (if 0 < (bt119.1.length : Int) then (if ((rd_L1 bt119.1 0).length : Int) = 1 then (if 0 < ((rd_L1 bt119.1 0).length : Int) then (some ((rd (rd_L1 bt119.1 0) 0) == 5)) else (none)) else (none)) else (none)) else (none)) else (none))) else (none)) else (none)) else (none)) else (none)) else (none))) = some r := by first | (rw [hy104]; with_reducible exact H) | (have H2_ := (Option.bind_some _ _).symm.trans H; rw [hy104]; with_reducible exact H2_) | (have H2_ := (Option.bind_some _ _).symm.trans H; with_reducible exact H2_) | with_reducible exact H | (rw [hy104]; exact H) | exact H
  have Ny104 := Aside0.mk hy104
  clear hy104
  obtain ⟨y107, hy107⟩ : ∃ y_ : List (List Int), y_ = (([y101, y104] : List (List Int))) := ⟨_, rfl⟩
  replace H : ((code_Encode.f k 2 1 y107).bind fun bt110 => (if bt110.2 = 0 then (if (bt110.1.length : Int) = 3 then (if 2 < (bt110.1.length : Int) then (if ((rd_L1 bt110.1 2).length : Int) = 1 then (if 0 < (bt110.1.length : Int) then ((code_Decode.f 2 1 (bt110.1.set (0 : Int).toNat ([] : List Int)) (([false, true, true] : List Bool))).bind fun bt119 => (if bt119.2 = 0 then (if (bt119.1.length : Int) = 3 then (if 0 < (bt119.1.length : Int) then (if ((rd_L1 bt119.1 0).length : Int) = 1 then (if 0 < ((rd_L1 bt119.1 0).length : Int) then (some ((rd (rd_L1 bt119.1 0) 0) == 5)) else (none)) else (none)) else (none)) else (none)) else (none))) else (none)) else (none)) else (none)) else (none)) else (none))) = some r := by first | (rw [hy107]; with_reducible exact H) | (have H2_ := (Option.bind_some _ _).symm.trans H; rw [hy107]; with_reducible exact H2_) | (have H2_ := (Option.bind_some _ _).symm.trans H; with_reducible exact H2_) | with_reducible exact H | (rw [hy107]; exact H) | exact H
  have Ny107 := Aside0.mk hy107
  clear hy107
  replace H := Option.bind_eq_some_iff.mp H
  obtain ⟨⟨t110, t113⟩, A10, H⟩ := H
  replace H : (if t113 = 0 then (if (t110.length : Int) = 3 then (if 2 < (t110.length : Int) then (if ((rd_L1 t110 2).length : Int) = 1 then (if 0 < (t110.length : Int) then ((code_Decode.f 2 1 (t110.set (0 : Int).toNat ([] : List Int)) (([false, true, true] : List Bool))).bind fun bt119 => (if bt119.2 = 0 then (if (bt119.1.length : Int) = 3 then (if 0 < (bt119.1.length : Int) then (if ((rd_L1 bt119.1 0).length : Int) = 1 then (if 0 < ((rd_L1 bt119.1 0).length : Int) then (some ((rd (rd_L1 bt119.1 0) 0) == 5)) else (none)) else (none)) else (none)) else (none)) else (none))) else (none)) else (none)) else (none)) else (none)) else (none)) = some r := H
  have A1 := Aside0.mk A10
  clear A10
  by_cases c2 : t113 = 0
  · rw [if_pos c2] at H
    have c2b0 : (t113 == 0) = true := beq_iff_eq.mpr c2
    have c2b1 : (t113 != 0) = false := bne_eq_false_iff_eq.mpr c2
    clear c2
    by_cases c3 : (t110.length : Int) = 3
    · rw [if_pos c3] at H
      have c3b0 : ((t110.length : Int) == 3) = true := beq_iff_eq.mpr c3
      have c3b1 : ((t110.length : Int) != 3) = false := bne_eq_false_iff_eq.mpr c3
      clear c3
      by_cases c4 : 2 < (t110.length : Int)
      · rw [if_pos c4] at H
        have c4b0 : decide (2 < (t110.length : Int)) = true := decide_eq_true c4
        have c4b1 : decide (2 < t110.length) = true := decide_eq_true (by omega)
        clear c4
        by_cases c5 : ((rd_L1 t110 2).length : Int) = 1
        · rw [if_pos c5] at H
          have c5b0 : (((rd_L1 t110 2).length : Int) == 1) = true := beq_iff_eq.mpr c5
          have c5b1 : (((rd_L1 t110 2).length : Int) != 1) = false := bne_eq_false_iff_eq.mpr c5
          clear c5
          by_cases c6 : 0 < (t110.length : Int)
          · rw [if_pos c6] at H
            have c6b0 : decide (0 < (t110.length : Int)) = true := decide_eq_true c6
            have c6b1 : decide (0 < t110.length) = true := decide_eq_true (by omega)
            clear c6
            obtain ⟨y115, hy115⟩ : ∃ y_ : List (List Int), y_ = (t110.set (0 : Int).toNat ([] : List Int)) := ⟨_, rfl⟩
            replace H : ((code_Decode.f 2 1 y115 (([false, true, true] : List Bool))).bind fun bt119 => (if bt119.2 = 0 then (if (bt119.1.length : Int) = 3 then (if 0 < (bt119.1.length : Int) then (if ((rd_L1 bt119.1 0).length : Int) = 1 then (if 0 < ((rd_L1 bt119.1 0).length : Int) then (some ((rd (rd_L1 bt119.1 0) 0) == 5)) else (none)) else (none)) else (none)) else (none)) else (none))) = some r := by first | (rw [hy115]; with_reducible exact H) | (have H2_ := (Option.bind_some _ _).symm.trans H; rw [hy115]; with_reducible exact H2_) | (have H2_ := (Option.bind_some _ _).symm.trans H; with_reducible exact H2_) | with_reducible exact H | (rw [hy115]; exact H) | exact H
            have Ny115 := Aside0.mk hy115
            clear hy115
            obtain ⟨y116, hy116⟩ : ∃ y_ : List Bool, y_ = (([false, true, true] : List Bool)) := ⟨_, rfl⟩
            replace H : ((code_Decode.f 2 1 y115 y116).bind fun bt119 => (if bt119.2 = 0 then (if (bt119.1.length : Int) = 3 then (if 0 < (bt119.1.length : Int) then (if ((rd_L1 bt119.1 0).length : Int) = 1 then (if 0 < ((rd_L1 bt119.1 0).length : Int) then (some ((rd (rd_L1 bt119.1 0) 0) == 5)) else (none)) else (none)) else (none)) else (none)) else (none))) = some r := by first | (rw [hy116]; with_reducible exact H) | (have H2_ := (Option.bind_some _ _).symm.trans H; rw [hy116]; with_reducible exact H2_) | (have H2_ := (Option.bind_some _ _).symm.trans H; with_reducible exact H2_) | with_reducible exact H | (rw [hy116]; exact H) | exact H
            have Ny116 := Aside0.mk hy116
            clear hy116
            replace H := Option.bind_eq_some_iff.mp H
            obtain ⟨⟨t119, t122⟩, A80, H⟩ := H
            replace H : (if t122 = 0 then (if (t119.length : Int) = 3 then (if 0 < (t119.length : Int) then (if ((rd_L1 t119 0).length : Int) = 1 then (if 0 < ((rd_L1 t119 0).length : Int) then (some ((rd (rd_L1 t119 0) 0) == 5)) else (none)) else (none)) else (none)) else (none)) else (none)) = some r := H
            have A8 := Aside0.mk A80
            clear A80
            by_cases c9 : t122 = 0
            · rw [if_pos c9] at H
              have c9b0 : (t122 == 0) = true := beq_iff_eq.mpr c9
              have c9b1 : (t122 != 0) = false := bne_eq_false_iff_eq.mpr c9
              clear c9
              by_cases c10 : (t119.length : Int) = 3
              · rw [if_pos c10] at H
                have c10b0 : ((t119.length : Int) == 3) = true := beq_iff_eq.mpr c10
                have c10b1 : ((t119.length : Int) != 3) = false := bne_eq_false_iff_eq.mpr c10
                clear c10
                by_cases c11 : 0 < (t119.length : Int)
                · rw [if_pos c11] at H
                  have c11b0 : decide (0 < (t119.length : Int)) = true := decide_eq_true c11
                  have c11b1 : decide (0 < t119.length) = true := decide_eq_true (by omega)
                  clear c11
                  by_cases c12 : ((rd_L1 t119 0).length : Int) = 1
                  · rw [if_pos c12] at H
                    have c12b0 : (((rd_L1 t119 0).length : Int) == 1) = true := beq_iff_eq.mpr c12
                    have c12b1 : (((rd_L1 t119 0).length : Int) != 1) = false := bne_eq_false_iff_eq.mpr c12
                    clear c12
                    by_cases c13 : 0 < ((rd_L1 t119 0).length : Int)
                    · rw [if_pos c13] at H
                      have c13b0 : decide (0 < ((rd_L1 t119 0).length : Int)) = true := decide_eq_true c13
                      have c13b1 : decide (0 < (rd_L1 t119 0).length) = true := decide_eq_true (by omega)
                      clear c13
                      obtain rfl := Option.some.inj H
                      go_enter Try.func74, Try.ntmps74
                      go_wp2_with (first | ((with_reducible refine gate_dst (N := 5) rfl ?_); (try (refine gate_guard (by rfl) ?_; dsimp only)); refine Kd.R_lit (Kd.int .u8) _ 5 ?hg (N := 5) ?hd (xs := ([5] : List Int)) (inner := [.int .u8 5]) (ok := fun _ => True) (okp := fun _ => True) ?hr ?hp (fun _ hk => hk) trivial (Below.refl _ _) (Nat.le_refl _) (by simp) ?_; (case hd => rfl); (case hg => rfl); (case hr => first | (go_simp; done) | (go_simp; rfl)); (case hp => exact (Reps.one (show Kd.M (Kd.int .u8) _ _ _ 5 [.int .u8 5] from rfl) (Reps.none _ _))); intro v102 w14 ho15 hb hg_ hnew_; clear hg_ hnew_; (first | rw [← Ny101.out] at ho15 | (simp only [Int.reduceToNat] at ho15; rw [← Ny101.out] at ho15)); have n0_ := Aside0.mk (Kd.R_lower ho15 (below_size (by repeat (first | (with_reducible first | exact HB.out | apply below_alloc | apply pw_below_drewN | apply below_drew1) | exact HB.out)))); have n1_ := Aside0.mk (below_step (by repeat (first | (with_reducible first | exact HB.out | apply below_alloc | apply pw_below_drewN | apply below_drew1) | exact HB.out)) hb); clear HB; have HO103 := n0_; have HB := n1_; clear n0_ n1_; clear hb ho15) | ((with_reducible refine gate_dst (N := 6) rfl ?_); (try (refine gate_guard (by rfl) ?_; dsimp only)); refine Kd.R_lit (Kd.int .u8) _ 5 ?hg (N := 6) ?hd (xs := ([7] : List Int)) (inner := [.int .u8 7]) (ok := fun _ => True) (okp := fun _ => True) ?hr ?hp (fun _ hk => hk) trivial (Below.refl _ _) (Nat.le_refl _) (by simp) ?_; (case hd => rfl); (case hg => rfl); (case hr => first | (go_simp; done) | (go_simp; rfl)); (case hp => exact (Reps.one (show Kd.M (Kd.int .u8) _ _ _ 7 [.int .u8 7] from rfl) (Reps.none _ _))); intro v105 w16 ho17 hb hg_ hnew_; clear hg_ hnew_; (first | rw [← Ny104.out] at ho17 | (simp only [Int.reduceToNat] at ho17; rw [← Ny104.out] at ho17)); have n0_ := Aside0.mk (Kd.R_elder' (by (with_reducible repeat (first | apply Kd.R_alloc | apply Kd.R_drewN | apply Kd.R_drew)); exact HO103.out) (Kd.R_base ho17) hb); have n1_ := Aside0.mk (Kd.R_lower (Kd.R_new' ho17 (Kd.R_lt (by (with_reducible repeat (first | apply Kd.R_alloc | apply Kd.R_drewN | apply Kd.R_drew)); exact HO103.out))) (below_size (by repeat (first | (with_reducible first | exact HB.out | apply below_alloc | apply pw_below_drewN | apply below_drew1) | exact HB.out)))); have n2_ := Aside0.mk (below_step (by repeat (first | (with_reducible first | exact HB.out | apply below_alloc | apply pw_below_drewN | apply below_drew1) | exact HB.out)) hb); clear HO103; clear HB; have HO103 := n0_; have HO106 := n1_; have HB := n2_; clear n0_ n1_ n2_; clear hb ho17; obtain ⟨Ao18, co18, eo18⟩ := Kd.R_slice HO103.out; subst eo18; obtain ⟨Ao19, co19, eo19⟩ := Kd.R_slice HO106.out; subst eo19) | ((with_reducible refine gate_dst (N := 7) rfl ?_); (try (refine gate_guard (by rfl) ?_; dsimp only)); refine Kd.N_lit (Kd.slice 5 (Kd.int .u8)) _ 22 ?hg (N' := 7) ?hd (xs := ([y101, y104] : List (List Int))) (inner := [.slice Ao18 y101.length co18, .slice Ao19 y104.length co19]) (ok := (fun _ => True)) (okp := (fun _ => True)) ?hr ?hp (fun _ hk => hk) ((show ∀ k_, w16.heap.size ≤ k_ → (fun _ => True) k_ from fun k_ hk => trivial) _ (Nat.le_refl _)) (Below.refl _ _) (Nat.le_refl _) (by simp) ?_; (case hd => rfl); (case hg => rfl); (case hr => first | (go_simp; done) | (go_simp; rfl)); (case hp => exact (Reps.one (show Kd.FK (Kd.slice 5 (Kd.int .u8)) _ _ y101 [.slice Ao18 y101.length co18] from (Kd.FK_slice_mk (Kd.R_reads' (Kd.R_mono (ok' := (fun _ => True)) (HO103.out) (fun k_ hk => trivial))).2.1 (Kd.R_F (Kd.R_mono (ok' := (fun _ => True)) (HO103.out) (fun k_ hk => trivial))))) (Reps.one (show Kd.FK (Kd.slice 5 (Kd.int .u8)) _ _ y104 [.slice Ao19 y104.length co19] from (Kd.FK_slice_mk (Kd.R_reads' (Kd.R_mono (ok' := (fun _ => True)) (HO106.out) (fun k_ hk => trivial))).2.1 (Kd.R_F (Kd.R_mono (ok' := (fun _ => True)) (HO106.out) (fun k_ hk => trivial))))) (Reps.none _ _)))); intro v108 w20 ho21 hb hg_ hnew_; clear hg_ hnew_; (first | rw [← Ny107.out] at ho21 | (simp only [Int.reduceToNat] at ho21; rw [← Ny107.out] at ho21)); have n0_ := Aside0.mk (Kd.N_lower ho21 (below_size (by repeat (first | (with_reducible first | exact HB.out | apply below_alloc | apply pw_below_drewN | apply below_drew1) | exact HB.out)))); have n1_ := Aside0.mk (below_step (by repeat (first | (with_reducible first | exact HB.out | apply below_alloc | apply pw_below_drewN | apply below_drew1) | exact HB.out)) hb); clear HB; clear HO103; clear HO106; have HO109 := n0_; have HB := n1_; clear n0_ n1_; clear hb ho21; obtain ⟨Ao22, co22, eo22⟩ := Kd.N_slice HO109.out; subst eo22) | ((with_reducible refine gate_callee (f := 75) rfl ?_); refine goesL_ (some 8) rfl rfl Try.func75 (by kernel_rfl) rfl #[.int .i64 2, .int .i64 1, .slice Ao22 y107.length co22] rfl (by (try simp only [List.map_toArray, List.map_cons, List.map_nil]); first | done | rfl | (simp only [List.length_drop, List.length_take]; rfl)) ?_; (with_reducible refine (code_Encode.calls k 2 1 _ _ y107 t110 t113 _ ?side1 ?side2 A1.out).mono ?_); (case side1 => repeat (first | exact (Kd.N_reads' HO109.out).2.2 | (with_reducible refine Kd.C_alloc ?_ _) | (with_reducible refine Kd.C_drewN ?_ _) | (with_reducible refine Kd.C_drew ?_))); (case side2 => exact (Kd.N_reads' HO109.out).2.1); rintro e w23 ⟨v111, rfl, ho0, hb⟩; refine ⟨_, rfl, ?_⟩; have n0_ := Aside0.mk (Kd.N_elder' (by (with_reducible repeat (first | apply Kd.N_alloc | apply Kd.N_drewN | apply Kd.N_drew)); exact HO109.out) (by first | exact Kd.N_base ho0 | exact Kd.S_base ho0) hb); have n1_ := Aside0.mk (Kd.N_lower (Kd.N_mono (ok' := fun k_ => some k_ ≠ (.slice Ao22 y107.length co22 : Value).ownBlock) ho0 (fun k_ hk_ => (Kd.fresh' (Kd.N_lt (by (with_reducible repeat (first | apply Kd.N_alloc | apply Kd.N_drewN | apply Kd.N_drew)); exact HO109.out)) k_ hk_))) (below_size (by repeat (first | (with_reducible first | exact HB.out | apply below_alloc | apply pw_below_drewN | apply below_drew1) | exact HB.out)))); have n2_ := Aside0.mk (below_step (by repeat (first | (with_reducible first | exact HB.out | apply below_alloc | apply pw_below_drewN | apply below_drew1) | exact HB.out)) hb); clear HO109; clear HB; have HO109 := n0_; have HO112 := n1_; have HB := n2_; clear n0_ n1_ n2_; (try clear hb); (try clear hb2); (try clear hk); (try clear hi); (try clear ho0); obtain ⟨Ao24, co24, eo24⟩ := Kd.N_slice HO112.out; subst eo24; have p114 : 0 ≤ (2 : Int) := (by omega); have q114 : 2 < (t110.length : Int) := of_decide_eq_true (by first | (with_reducible assumption) | assumption); obtain ⟨ad114, A114_0, c114_0, e114, hx114_0, hl114_0, hi114_0⟩ := at_L1 (Kd.N_reads' HO112.out).2.2 2 p114 q114; cases e114; obtain ⟨ce114, hce114, hMe114, hcc114⟩ := Kd.N_get HO112.out [] 2 p114 (by first | exact q114 | exact of_decide_eq_true (by first | (with_reducible assumption) | assumption) | (have e_ := (Kd.N_reads' HO112.out).1; omega)); obtain ⟨ua114_0, uc114_0, rfl, ul114_0, ge114_0⟩ := Kd.FK_slice_open hMe114; have hv114_0 := hcc114 0 _ rfl; rw [Nat.add_zero, show ((Kd.slice 5 (Kd.int .u8))).sz = 1 from rfl, Nat.mul_one] at hv114_0; replace hv114_0 := Option.some.inj (hv114_0.symm.trans hx114_0); injection hv114_0 with hva_ hvn_ hvc_; rw [hva_] at ge114_0; rw [hvc_] at ul114_0; have HL114_0 := Aside0.mk (show Kd.V (Kd.int .u8) 5 _ w.heap.size _ _ (rd_L1 t110 2) from Kd.V_mk ul114_0 ge114_0); clear hva_ hvn_ hvc_ ge114_0 ul114_0; clear hcc114 hce114; (try simp only [show (2 : Int).toNat = 2 from rfl, Nat.reduceMul, Nat.reduceEqDiff, Go.Addr.add, ↓reduceIte] at hx114_0); have qi114 : (2 < t110.length) = True := eq_true (by omega); (try rw [show ((2 : Int)).toNat = 2 from rfl] at hx114_0); have HR114_0 := Aside0.mk hi114_0; have HC114_0 := Aside0.mk hl114_0; clear hi114_0 hl114_0; replace p114 := eq_true p114; replace q114 := eq_true q114; have p7 : 0 ≤ (0 : Int) := (by omega); have q7 : (0 : Int) < ((t110.length : Int) : Int) := of_decide_eq_true (by first | (with_reducible assumption) | assumption); have qi7 : (0 < t110.length) = True := eq_true (by omega); obtain ⟨go7, co7, eo7, gb7, gl7, cl7, HG7⟩ := Kd.N_form HO112.out (by omega); (first | cases eo7 | (injection eo7 with ea_ en_ ec_; (first | subst ea_ | (injection ea_ with ea_; subst ea_)); subst ec_; clear en_)); have GB7 := Aside0.mk gb7; have GG7 := Aside0.mk HG7; clear gb7 gl7 HG7; (first | simp only [add_plain] at hx114_0 | skip); obtain ⟨ce7, hcl7, hM7, hcc7, hfr7⟩ := Kd.N_elem HO112.out [] (0 : Int) p7 q7; obtain ⟨ua7_0, uc7_0, rfl, ul7_0, ge7_0⟩ := Kd.FK_slice_open hM7; have hx7_0 := hcc7 0 _ rfl; have hf7_0 := hfr7 0; (try simp only [show ((Kd.slice 5 (Kd.int .u8))).sz = 1 from rfl, Nat.mul_one, Nat.add_zero] at hx7_0); (try simp only [show ((Kd.slice 5 (Kd.int .u8))).sz = 1 from rfl, Nat.mul_one, Nat.add_zero] at hf7_0); (try clear hcl7); (try clear hcc7); (try clear hfr7); (try clear hM7); (try rw [show ((0 : Int)).toNat = 0 from rfl] at hx7_0); (try simp only [Nat.reduceMul, Nat.zero_mul, Nat.zero_add, Nat.reduceAdd] at hx7_0); (try rw [show ((0 : Int)).toNat = 0 from rfl] at hf7_0); (try simp only [Nat.reduceMul, Nat.zero_mul, Nat.zero_add, Nat.reduceAdd] at hf7_0); replace p7 := eq_true p7; replace q7 := eq_true q7; have HX25 := Aside0.mk (show Kd.N (Kd.slice 5 (Kd.int .u8)) 22 w23 w.heap.size (fun k_ => some k_ ≠ (.slice Ao22 y107.length co22 : Value).ownBlock) (.slice (some ⟨go7, 0, none⟩) t110.length co24) t110 from (by (with_reducible repeat (first | apply Kd.N_alloc | apply Kd.N_drewN | apply Kd.N_drew)); exact HO112.out)); obtain ⟨ce25, hcl25, hM25, hcc25, hfr25⟩ := Kd.N_elem HX25.out [] (0 : Int) (by omega) (by have h_ : (0 : Int) < ((t110.length : Int) : Int) := of_decide_eq_true (by first | (with_reducible assumption) | assumption); first | exact h_ | (have e_ := (Kd.N_reads' HO112.out).1; omega) | simpa using h_); obtain ⟨ua25_0, uc25_0, rfl, ul25_0, ge25_0⟩ := Kd.FK_slice_open hM25; have HP25 := Kd.N_seg HX25.out (0 : Int) (by omega) (by have h_ : (0 : Int) < ((t110.length : Int) : Int) := of_decide_eq_true (by first | (with_reducible assumption) | assumption); first | exact h_ | (have e_ := (Kd.N_reads' HO112.out).1; omega) | simpa using h_) (seg := [.slice none 0 0]) (j := 0) hcl25 hcc25 (show 1 ≤ 1 from by decide) (x' := ([] : List Int)) (Kd.FK_slice_mk (Nat.le_refl _) (Kd.F_nil _ _ _)) (fun _ hk => hk); have hx25_0 := hcc25 0 _ rfl; (try simp only [show ((Kd.slice 5 (Kd.int .u8))).sz = 1 from rfl, Nat.mul_one, Nat.add_zero] at hx25_0); (try rw [show ((0 : Int)).toNat = 0 from rfl] at hx25_0); (try simp only [Nat.reduceMul, Nat.zero_mul, Nat.zero_add, Nat.reduceAdd] at hx25_0); have hf25_0 := hfr25 0; (try simp only [show ((Kd.slice 5 (Kd.int .u8))).sz = 1 from rfl, Nat.mul_one, Nat.add_zero] at hf25_0); (try rw [show ((0 : Int)).toNat = 0 from rfl] at hf25_0); (try simp only [Nat.reduceMul, Nat.zero_mul, Nat.zero_add, Nat.reduceAdd] at hf25_0); (try clear hcl25); (try clear hcc25); (try clear hfr25); (try clear hM25); (try simp only [show ((Kd.slice 5 (Kd.int .u8))).sz = 1 from rfl, Nat.mul_one, Nat.add_zero] at HP25); (try simp only [show ((Kd.slice 5 (Kd.int .u8))).sz = 1 from rfl, Nat.mul_one, Nat.add_zero] at HP25)) | ((with_reducible refine gate_store (t := 22) (p := 26) rfl ?_); refine store_event (t := 22) (p := 26) (v := ?vo_w26) (w1 := (w23.setCell ⟨go7, 0, none⟩ (.slice none 0 0))) ?hg ?ho ?hn ?hr ?_; (case ho => rfl); (case hg => rfl); (case hn => rfl); (case hr => first | (go_simp; done) | (go_simp; rfl)); intro w26 hw; have hg : w23.grownBy w26 (some go7) := (by rw [hw]; exact HP25.2); have hp_ : Kd.N (Kd.slice 5 (Kd.int .u8)) 22 w26 w.heap.size (fun k_ => some k_ ≠ (.slice Ao22 y107.length co22 : Value).ownBlock) (.slice (some ⟨go7, 0, none⟩) t110.length co24) y115 := (by rw [hw, Ny115.out]; exact HP25.1); clear HP25; have n0_ := Aside0.mk (Kd.N_afterv (v := (.slice (some ⟨go7, 0, none⟩) t110.length co24)) (v1 := (.slice (some ⟨go7, 0, none⟩) t110.length co24)) (ok := (fun _ => True)) (by (with_reducible repeat (first | apply Kd.N_alloc | apply Kd.N_drewN | apply Kd.N_drew)); exact HO109.out) hg (.inl rfl)); have n1_ := Aside0.mk (hp_); have n2_ := Aside0.mk (Kd.V_afterv (v := (.slice (some ⟨go7, 0, none⟩) t110.length co24)) (v1 := (.slice (some ⟨go7, 0, none⟩) t110.length co24)) (ok := (fun k_ => some k_ ≠ (.slice Ao22 y107.length co22 : Value).ownBlock)) (by (with_reducible repeat (first | apply Kd.V_alloc | apply Kd.V_drewN | apply Kd.V_drew)); exact HL114_0.out) hg (.inl rfl)); have n3_ := Aside0.mk ((by rw [hw]; exact below_set (HB.out) GB7.out : Below w.heap.size w w26)); clear HO109; clear HO112; clear HL114_0; clear HB; have HO109 := n0_; have HO112 := n1_; have HL114_0 := n2_; have HB := n3_; clear n0_ n1_ n2_ n3_; clear hg hw hp_) | ((with_reducible refine gate_dst (N := 29) rfl ?_); (try (refine gate_guard (by rfl) ?_; dsimp only)); refine Kd.R_lit Kd.bool _ 4 ?hg (N := 29) ?hd (xs := ([false, true, true] : List Bool)) (inner := [.bool false, .bool true, .bool true]) (ok := fun _ => True) (okp := fun _ => True) ?hr ?hp (fun _ hk => hk) trivial (Below.refl _ _) (Nat.le_refl _) (by simp) ?_; (case hd => rfl); (case hg => rfl); (case hr => first | (go_simp; done) | (go_simp; rfl)); (case hp => exact (Reps.one (show Kd.M Kd.bool _ _ _ false [.bool false] from rfl) (Reps.one (show Kd.M Kd.bool _ _ _ true [.bool true] from rfl) (Reps.one (show Kd.M Kd.bool _ _ _ true [.bool true] from rfl) (Reps.none _ _))))); intro v117 w27 ho28 hb hg_ hnew_; clear hg_ hnew_; (first | rw [← Ny116.out] at ho28 | (simp only [Int.reduceToNat] at ho28; rw [← Ny116.out] at ho28)); have n0_ := Aside0.mk (Kd.N_elder' (by (with_reducible repeat (first | apply Kd.N_alloc | apply Kd.N_drewN | apply Kd.N_drew)); exact HO109.out) (Kd.R_base ho28) hb); have n1_ := Aside0.mk (Kd.N_elder' (by (with_reducible repeat (first | apply Kd.N_alloc | apply Kd.N_drewN | apply Kd.N_drew)); exact HO112.out) (Kd.R_base ho28) hb); have n2_ := Aside0.mk (Kd.V_elder' (by (with_reducible repeat (first | apply Kd.V_alloc | apply Kd.V_drewN | apply Kd.V_drew)); exact HL114_0.out) (Kd.R_base ho28) hb); have n3_ := Aside0.mk (Kd.R_lower ho28 (below_size (by repeat (first | (with_reducible first | exact HB.out | apply below_alloc | apply pw_below_drewN | apply below_drew1) | exact HB.out)))); have n4_ := Aside0.mk (below_step (by repeat (first | (with_reducible first | exact HB.out | apply below_alloc | apply pw_below_drewN | apply below_drew1) | exact HB.out)) hb); clear HO109; clear HO112; clear HL114_0; clear HB; have HO109 := n0_; have HO112 := n1_; have HL114_0 := n2_; have HO118 := n3_; have HB := n4_; clear n0_ n1_ n2_ n3_ n4_; clear hb ho28; obtain ⟨Ao29, co29, eo29⟩ := Kd.R_slice HO118.out; subst eo29) | ((with_reducible refine gate_callee (f := 77) rfl ?_); refine goesL_ (some 30) rfl rfl Try.func77 (by kernel_rfl) rfl #[.int .i64 2, .int .i64 1, .slice (some ⟨go7, 0, none⟩) y115.length co24, .slice Ao29 y116.length co29] rfl (by (try simp only [List.map_toArray, List.map_cons, List.map_nil]); first | done | (rw [show y115.length = t110.length from (Kd.N_reads' HO112.out).1.symm] <;> rfl) | rfl | (simp only [List.length_drop, List.length_take]; rfl)) ?_; (with_reducible refine (code_Decode.calls 2 1 _ _ y115 _ _ y116 t119 t122 _ ?side1 ?side2 ?side3 ?side4 A8.out).mono ?_); (case side1 => repeat (first | exact (Kd.N_reads' HO112.out).2.2 | (with_reducible refine Kd.C_alloc ?_ _) | (with_reducible refine Kd.C_drewN ?_ _) | (with_reducible refine Kd.C_drew ?_))); (case side2 => rw [show y115.length = t110.length from (Kd.N_reads' HO112.out).1.symm]; exact (Kd.N_reads' HO112.out).2.1); (case side3 => repeat (first | exact (Kd.R_reads' HO118.out).2.2 | (with_reducible refine Kd.C_alloc ?_ _) | (with_reducible refine Kd.C_drewN ?_ _) | (with_reducible refine Kd.C_drew ?_))); (case side4 => exact (Kd.R_reads' HO118.out).2.1); rintro e w30 ⟨v120, rfl, ho0, hb⟩; refine ⟨_, rfl, ?_⟩; have n0_ := Aside0.mk (Kd.N_elder' (by (with_reducible repeat (first | apply Kd.N_alloc | apply Kd.N_drewN | apply Kd.N_drew)); exact HO109.out) (by first | exact Kd.N_base ho0 | exact Kd.S_base ho0) hb); have n1_ := Aside0.mk (Kd.N_elder' (by (with_reducible repeat (first | apply Kd.N_alloc | apply Kd.N_drewN | apply Kd.N_drew)); exact HO112.out) (by first | exact Kd.N_base ho0 | exact Kd.S_base ho0) hb); have n2_ := Aside0.mk (Kd.V_elder' (by (with_reducible repeat (first | apply Kd.V_alloc | apply Kd.V_drewN | apply Kd.V_drew)); exact HL114_0.out) (by first | exact Kd.N_base ho0 | exact Kd.S_base ho0) hb); have n3_ := Aside0.mk (Kd.R_below (by (with_reducible repeat (first | apply Kd.R_alloc | apply Kd.R_drewN | apply Kd.R_drew)); exact HO118.out) hb); have n4_ := Aside0.mk (Kd.N_lower (Kd.N_mono (ok' := fun k_ => some k_ ≠ (.slice Ao22 y107.length co22 : Value).ownBlock ∧ some k_ ≠ (.slice (some ⟨go7, 0, none⟩) t110.length co24 : Value).ownBlock ∧ some k_ ≠ (.slice Ao29 y116.length co29 : Value).ownBlock) ho0 (fun k_ hk_ => ⟨(Kd.fresh' (Kd.N_lt (by (with_reducible repeat (first | apply Kd.N_alloc | apply Kd.N_drewN | apply Kd.N_drew)); exact HO109.out)) k_ hk_), (Kd.fresh' (Kd.N_lt (by (with_reducible repeat (first | apply Kd.N_alloc | apply Kd.N_drewN | apply Kd.N_drew)); exact HO112.out)) k_ hk_), (Kd.fresh' (Kd.R_lt (by (with_reducible repeat (first | apply Kd.R_alloc | apply Kd.R_drewN | apply Kd.R_drew)); exact HO118.out)) k_ hk_)⟩)) (below_size (by repeat (first | (with_reducible first | exact HB.out | apply below_alloc | apply pw_below_drewN | apply below_drew1) | exact HB.out)))); have n5_ := Aside0.mk (below_step (by repeat (first | (with_reducible first | exact HB.out | apply below_alloc | apply pw_below_drewN | apply below_drew1) | exact HB.out)) hb); clear HO109; clear HO112; clear HL114_0; clear HO118; clear HB; have HO109 := n0_; have HO112 := n1_; have HL114_0 := n2_; have HO118 := n3_; have HO121 := n4_; have HB := n5_; clear n0_ n1_ n2_ n3_ n4_ n5_; (try clear hb); (try clear hb2); (try clear hk); (try clear hi); (try clear ho0); obtain ⟨Ao31, co31, eo31⟩ := Kd.N_slice HO121.out; subst eo31; have p123 : 0 ≤ (0 : Int) := (by omega); have q123 : 0 < (t119.length : Int) := of_decide_eq_true (by first | (with_reducible assumption) | assumption); obtain ⟨ad123, A123_0, c123_0, e123, hx123_0, hl123_0, hi123_0⟩ := at_L1 (Kd.N_reads' HO121.out).2.2 0 p123 q123; cases e123; obtain ⟨ce123, hce123, hMe123, hcc123⟩ := Kd.N_get HO121.out [] 0 p123 (by first | exact q123 | exact of_decide_eq_true (by first | (with_reducible assumption) | assumption) | (have e_ := (Kd.N_reads' HO121.out).1; omega)); obtain ⟨ua123_0, uc123_0, rfl, ul123_0, ge123_0⟩ := Kd.FK_slice_open hMe123; have hv123_0 := hcc123 0 _ rfl; rw [Nat.add_zero, show ((Kd.slice 5 (Kd.int .u8))).sz = 1 from rfl, Nat.mul_one] at hv123_0; replace hv123_0 := Option.some.inj (hv123_0.symm.trans hx123_0); injection hv123_0 with hva_ hvn_ hvc_; rw [hva_] at ge123_0; rw [hvc_] at ul123_0; have HL123_0 := Aside0.mk (show Kd.V (Kd.int .u8) 5 _ w.heap.size _ _ (rd_L1 t119 0) from Kd.V_mk ul123_0 ge123_0); clear hva_ hvn_ hvc_ ge123_0 ul123_0; clear hcc123 hce123; have qi123 : (0 < t119.length) = True := eq_true (by omega); (try rw [show ((0 : Int)).toNat = 0 from rfl] at hx123_0); (try rw [Addr.add_zero'] at hx123_0); have HR123_0 := Aside0.mk hi123_0; have HC123_0 := Aside0.mk hl123_0; clear hi123_0 hl123_0; replace p123 := eq_true p123; replace q123 := eq_true q123; have p124 : 0 ≤ (0 : Int) := (by omega); have q124 : 0 < (t119.length : Int) := of_decide_eq_true (by first | (with_reducible assumption) | assumption); obtain ⟨ad124, A124_0, c124_0, e124, hx124_0, hl124_0, hi124_0⟩ := at_L1 (Kd.N_reads' HO121.out).2.2 0 p124 q124; obtain rfl : ad123 = ad124 := (by injection e124); obtain ⟨ce124, hce124, hMe124, hcc124⟩ := Kd.N_get HO121.out [] 0 p124 (by first | exact q124 | exact of_decide_eq_true (by first | (with_reducible assumption) | assumption) | (have e_ := (Kd.N_reads' HO121.out).1; omega)); obtain ⟨ua124_0, uc124_0, rfl, ul124_0, ge124_0⟩ := Kd.FK_slice_open hMe124; have hv124_0 := hcc124 0 _ rfl; rw [Nat.add_zero, show ((Kd.slice 5 (Kd.int .u8))).sz = 1 from rfl, Nat.mul_one] at hv124_0; replace hv124_0 := Option.some.inj (hv124_0.symm.trans hx124_0); injection hv124_0 with hva_ hvn_ hvc_; rw [hva_] at ge124_0; rw [hvc_] at ul124_0; have HL124_0 := Aside0.mk (show Kd.V (Kd.int .u8) 5 _ w.heap.size _ _ (rd_L1 t119 0) from Kd.V_mk ul124_0 ge124_0); clear hva_ hvn_ hvc_ ge124_0 ul124_0; clear hcc124 hce124; have qi124 : (0 < t119.length) = True := eq_true (by omega); (try rw [show ((0 : Int)).toNat = 0 from rfl] at hx124_0); (try rw [Addr.add_zero'] at hx124_0); have HR124_0 := Aside0.mk hi124_0; have HC124_0 := Aside0.mk hl124_0; clear hi124_0 hl124_0; replace p124 := eq_true p124; replace q124 := eq_true q124; have ea_ := Option.some.inj (hx123_0.symm.trans hx124_0); injection ea_ with ea_ en_ ec_; subst ea_; subst ec_; clear en_; have p125 : 0 ≤ (0 : Int) := (by omega); have q125 : 0 < ((rd_L1 t119 0).length : Int) := of_decide_eq_true (by first | (with_reducible assumption) | assumption); obtain ⟨ad125, e125, hx125_0⟩ := Kd.at_int (by repeat (first | (with_reducible exact HR124_0.out) | (with_reducible refine Kd.C_alloc ?_ _) | (with_reducible refine Kd.C_drewN ?_ _) | (with_reducible refine Kd.C_drew ?_) | exact HR124_0.out)) 0 p125 q125; cases e125; have qi125 : (0 < (rd_L1 t119 0).length) = True := eq_true (by omega); (try rw [show ((0 : Int)).toNat = 0 from rfl] at hx125_0); (try rw [Addr.add_zero'] at hx125_0); replace p125 := eq_true p125; replace q125 := eq_true q125))
                      go_ret
                      exact ⟨by first | rfl | (simp [errW_none, errW_some] <;> rfl) | (simp [*, errW_none, errW_some] <;> rfl), by repeat (first | (with_reducible first | exact HB.out | apply below_alloc | apply pw_below_drewN | apply below_drew1) | exact HB.out)⟩
                    · rw [if_neg c13] at H
                      exact absurd H (by simp)
                  · rw [if_neg c12] at H
                    exact absurd H (by simp)
                · rw [if_neg c11] at H
                  exact absurd H (by simp)
              · rw [if_neg c10] at H
                exact absurd H (by simp)
            · rw [if_neg c9] at H
              exact absurd H (by simp)
          · rw [if_neg c6] at H
            exact absurd H (by simp)
        · rw [if_neg c5] at H
          exact absurd H (by simp)
      · rw [if_neg c4] at H
        exact absurd H (by simp)
    · rw [if_neg c3] at H
      exact absurd H (by simp)
  · rw [if_neg c2] at H
    exact absurd H (by simp)
end Go.Proofs.Ytbogmlckbkogiaa.P
namespace Go.Proofs.Ytbogmlckbkogiaa.P
open Go.Proofs.Ytbogmlckbkogiaa.Leaf
open Go.RowKit Go.Proofs.YtbogmlckbkogiaaW.PrintWords Go.Proofs.YtbogmlckbkogiaaW.PrintLast Go.Proofs.YtbogmlckbkogiaaW.PrintMore
attribute [local go_sem] max2_int min2_int max_two min_two max_three min_three max_four min_four   -- for this text's walks alone
set_option linter.unusedVariables false
set_option linter.unusedSimpArgs false
def code_Check.j0 : Nat → Int → Int → List (List Int) → Bool → Option (Bool × Int)
  | 0, _, _, _, _ => none
  | k + 1, x0, x1, x2, x27 => if x27 = true then (some (false, 1)) else (if 0 ≤ x0 then (if x0 ≤ (x2.length : Int) then ((code_Encode.f k x0 x1 (x2.take (x0 : Int).toNat)).bind fun bt110 => ((code_same.f bt110.1 x2).bind fun t114 => (some (t114, 0)))) else (none)) else (none))
def code_Check.f (k : Nat) (a0 : Int) (a1 : Int) (l2 : List (List Int)) : Option (Bool × Int) := (matrix_Cauchy.f k a0 a1).bind fun bt101 => (if bt101.2 = 0 then ((code_even.f l2 (wrap64 (a0 + a1))).bind fun t105 => (code_Check.j0 k a0 a1 l2 (!t105))) else (code_Check.j0 k a0 a1 l2 true))
theorem code_Check.mono_l : ∀ k, (∀ y0 y1 y2 y3, LeO (code_Check.j0 k y0 y1 y2 y3) (code_Check.j0 (k + 1) y0 y1 y2 y3))
  | 0 => fun _ _ _ _ r h => by simp [code_Check.j0] at h
  | k + 1 => by
    have ih0 := code_Check.mono_l k
    · intro y0 y1 y2 y3
      unfold code_Check.j0
      repeat' first
      | (with_reducible exact ih0 _ _ _ _)
      | (with_reducible exact code_Encode.mono _ _ _ _)
      | (with_reducible exact matrix_Cauchy.mono _ _ _)
      | (with_reducible exact LeO.refl _)
      | (with_reducible exact LeO.none _)
      | (with_reducible refine LeO.ite ?_ ?_)
      | (with_reducible refine LeO.bind ?_ (fun _ => ?_))
      | exact ih0 _ _ _ _
      | exact code_Encode.mono _ _ _ _
      | exact matrix_Cauchy.mono _ _ _
      | exact LeO.none _
      | refine LeO.ite ?_ ?_
      | refine LeO.bind ?_ (fun _ => ?_)
theorem code_Check.mono : ∀ a0 a1 a2 k, LeO (code_Check.f k a0 a1 a2) (code_Check.f (k + 1) a0 a1 a2) := by
  intro a0 a1 a2 k
  have ih0 := code_Check.mono_l k
  unfold code_Check.f
  repeat' first
      | (with_reducible exact ih0 _ _ _ _)
      | (with_reducible exact code_Encode.mono _ _ _ _)
      | (with_reducible exact matrix_Cauchy.mono _ _ _)
      | (with_reducible exact LeO.refl _)
      | (with_reducible exact LeO.none _)
      | (with_reducible refine LeO.ite ?_ ?_)
      | (with_reducible refine LeO.bind ?_ (fun _ => ?_))
      | exact ih0 _ _ _ _
      | exact code_Encode.mono _ _ _ _
      | exact matrix_Cauchy.mono _ _ _
      | exact LeO.none _
      | refine LeO.ite ?_ ?_
      | refine LeO.bind ?_ (fun _ => ?_)
set_option maxHeartbeats 8000000 in
set_option maxRecDepth 100000 in
theorem code_Check.calls (k : Nat) (a0 : Int) (a1 : Int) (A2 : Option Addr) (c2 : Nat) (l2 : List (List Int)) (r1 : Bool) (r2 : Int) (w : World) (hr2 : Kd.C (Kd.slice 5 (Kd.int .u8)) w A2 l2.length l2) (hc2 : l2.length ≤ c2) (h : code_Check.f k a0 a1 l2 = some (r1, r2)) :
    Calls Try.prog 82 #[.int .i64 a0, .int .i64 a1, .slice A2 l2.length c2] w fun e w' => e = .returned (.tuple #[.bool r1, .int .i64 r2]) ∧ Below w.heap.size w w' := by
  have HR2 := Aside0.mk hr2
  have HC2 := Aside0.mk hc2
  clear hr2 hc2
  have HB := Aside0.mk (Below.refl w.heap.size w)
  have H : ((matrix_Cauchy.f k a0 a1).bind fun bt101 => (if bt101.2 = 0 then ((code_even.f l2 (wrap64 (a0 + a1))).bind fun t105 => (code_Check.j0 k a0 a1 l2 (!t105))) else (code_Check.j0 k a0 a1 l2 true))) = some (r1, r2) := h
  clear h
  replace H := Option.bind_eq_some_iff.mp H
  obtain ⟨⟨t101, t102⟩, A40, H⟩ := H
  replace H : (if t102 = 0 then ((code_even.f l2 (wrap64 (a0 + a1))).bind fun t105 => (code_Check.j0 k a0 a1 l2 (!t105))) else (code_Check.j0 k a0 a1 l2 true)) = some (r1, r2) := H
  have A4 := Aside0.mk A40
  clear A40
  have HC5 := Aside0.mk H
  clear H
  go_enter Try.func82, Try.ntmps82
  go_upto_region 2 with (first | ((with_reducible refine gate_callee (f := 71) rfl ?_); refine goesL_ (some 15) rfl rfl Try.func71 (by kernel_rfl) rfl #[.int .i64 a0, .int .i64 a1] rfl (by (try simp only [List.map_toArray, List.map_cons, List.map_nil]); first | done | rfl | (simp only [List.length_drop, List.length_take]; rfl)) ?_; (with_reducible refine (matrix_Cauchy.calls k a0 a1 t101 t102 _ A4.out).mono ?_); rintro e w6 ⟨v103, rfl, ho0, hb⟩; refine ⟨_, rfl, ?_⟩; have n0_ := Aside0.mk (Kd.N_lower (Kd.N_mono (ok' := fun k_ => True) (Kd.S_N (Kd.S_bound ho0)) (fun k_ hk_ => trivial)) (below_size (by repeat (first | (with_reducible first | exact HB.out | apply below_alloc | apply pw_below_drewN | apply below_drew1) | exact HB.out)))); have n1_ := Aside0.mk (below_step (by repeat (first | (with_reducible first | exact HB.out | apply below_alloc | apply pw_below_drewN | apply below_drew1) | exact HB.out)) hb); clear HB; have HO104 := n0_; have HB := n1_; clear n0_ n1_; (try clear hb); (try clear hb2); (try clear hk); (try clear hi); (try clear ho0)))
  (try simp only [Act.put, List.setIfInBounds_toArray, List.set_cons_zero, List.set_cons_succ])
  go_cut [27] (fun v27 wc => ∃ (kq : Nat) (x27_4 : Bool), v27 = .bool x27_4 ∧ Aside0 (code_Check.j0 kq a0 a1 l2 x27_4 = some (r1, r2)) ∧ Aside0 (kq ≤ k) ∧ Aside0 (Below w.heap.size w wc))
  case first =>
    have H := HC5.out
    clear HC5
    by_cases c7 : t102 = 0
    · rw [if_pos c7] at H
      have c7b0 : (t102 == 0) = true := beq_iff_eq.mpr c7
      have c7b1 : (t102 != 0) = false := bne_eq_false_iff_eq.mpr c7
      clear c7
      (first | rw [c7b0] | (simp only [i64_w, i32_w]; rw [c7b0]) | skip)
      replace H := Option.bind_eq_some_iff.mp H
      obtain ⟨t105, A80, H⟩ := H
      replace H : (code_Check.j0 k a0 a1 l2 (!t105)) = some (r1, r2) := H
      have A8 := Aside0.mk A80
      clear A80
      have H' := Aside0.mk H
      clear H
      go_wp2_with (first | (go_at_call 95; (with_reducible refine (code_even.calls _ _ l2 (wrap64 (a0 + a1)) t105 _ ?side1 ?side2 A8.out).mono ?_); (case side1 => repeat (first | exact (Kd.C_below HR2.out HB.out) | (with_reducible refine Kd.C_alloc ?_ _) | (with_reducible refine Kd.C_drewN ?_ _) | (with_reducible refine Kd.C_drew ?_))); (case side2 => exact HC2.out); rintro e w9 ⟨rfl, hb⟩; have n0_ := Aside0.mk (Kd.N_below (by (with_reducible repeat (first | apply Kd.N_alloc | apply Kd.N_drewN | apply Kd.N_drew)); exact HO104.out) hb); have n1_ := Aside0.mk (below_step (by repeat (first | (with_reducible first | exact HB.out | apply below_alloc | apply pw_below_drewN | apply below_drew1) | exact HB.out)) hb); clear HO104; clear HB; have HO104 := n0_; have HB := n1_; clear n0_ n1_; (try clear hb); (try clear hb2); (try clear hk); (try clear hi)))
      go_meet
      case rel => exact ⟨_, (!t105), (by first | rfl | (simp; done) | (simp [*]; done)), H', ⟨by first | omega | exact Nat.le_refl _⟩, ⟨by repeat (first | (with_reducible first | exact HB.out | apply below_alloc | apply pw_below_drewN | apply below_drew1) | exact HB.out)⟩⟩
    · rw [if_neg c7] at H
      have c7b0 : (t102 == 0) = false := beq_eq_false_iff_ne.mpr c7
      have c7b1 : (t102 != 0) = true := bne_iff_ne.mpr c7
      (first | rw [c7b0] | (simp only [i64_w, i32_w]; rw [c7b0]) | skip)
      have H' := Aside0.mk H
      clear H
      go_wp2
      go_meet
      case rel => exact ⟨_, (true), (by first | rfl | (simp; done) | (simp [*]; done)), H', ⟨by first | omega | exact Nat.le_refl _⟩, ⟨by repeat (first | (with_reducible first | exact HB.out | apply below_alloc | apply pw_below_drewN | apply below_drew1) | exact HB.out)⟩⟩
  case rest =>
    clear HC5
    try clear c2
    try clear p2
    try clear p6
    try clear c7
    try clear c7b0
    try clear c7b1
    try clear c8
    obtain ⟨kq, x27_4, rfl, HA, HJ4, HB⟩ := hcut
    cases kq with
    | zero => exact absurd HA.out (by simp [code_Check.j0])
    | succ kj4 =>
      have H := HA.out
      clear HA
      simp only [code_Check.j0] at H
      by_cases c10 : x27_4 = true
      · subst c10
        have H1 : (some (false, 1)) = some (r1, r2) := by rw [if_pos rfl] at H; exact H
        clear H
        have H := H1
        clear H1
        simp only [Option.some.injEq, Prod.mk.injEq] at H
        obtain ⟨rfl, rfl⟩ := H
        go_wp2
        go_ret2
        exact ⟨by first | rfl | (simp [errW_none, errW_some] <;> rfl) | (simp [*, errW_none, errW_some] <;> rfl), by repeat (first | (with_reducible first | exact HB.out | apply below_alloc | apply pw_below_drewN | apply below_drew1) | exact HB.out)⟩
      · replace c10 := Bool.eq_false_iff.mpr c10
        subst c10
        have H1 : (if 0 ≤ a0 then (if a0 ≤ (l2.length : Int) then ((code_Encode.f kj4 a0 a1 (l2.take (a0 : Int).toNat)).bind fun bt110 => ((code_same.f bt110.1 l2).bind fun t114 => (some (t114, 0)))) else (none)) else (none)) = some (r1, r2) := by rw [if_neg (show ¬ (false = true) by decide)] at H; exact H
        clear H
        have H := H1
        clear H1
        by_cases c11 : 0 ≤ a0
        · rw [if_pos c11] at H
          have c11b0 := eq_true c11
          have c11b1 : decide (0 ≤ a0) = true := decide_eq_true c11
          clear c11
          by_cases c12 : a0 ≤ (l2.length : Int)
          · rw [if_pos c12] at H
            have c12b0 := eq_true c12
            have c12b1 : decide (a0 ≤ (l2.length : Int)) = true := decide_eq_true c12
            clear c12
            obtain ⟨y106, hy106⟩ : ∃ y_ : List (List Int), y_ = (l2.take (a0 : Int).toNat) := ⟨_, rfl⟩
            replace H : ((code_Encode.f kj4 a0 a1 y106).bind fun bt110 => ((code_same.f bt110.1 l2).bind fun t114 => (some (t114, 0)))) = some (r1, r2) := by first | (rw [hy106]; with_reducible exact H) | (have H2_ := (Option.bind_some _ _).symm.trans H; rw [hy106]; with_reducible exact H2_) | (have H2_ := (Option.bind_some _ _).symm.trans H; with_reducible exact H2_) | with_reducible exact H | (rw [hy106]; exact H) | exact H
            have Ny106 := Aside0.mk hy106
            clear hy106
            replace H := Option.bind_eq_some_iff.mp H
            obtain ⟨⟨t110, t113⟩, A130, H⟩ := H
            replace H : ((code_same.f t110 l2).bind fun t114 => (some (t114, 0))) = some (r1, r2) := H
            have A13 := Aside0.mk A130
            clear A130
            replace H := Option.bind_eq_some_iff.mp H
            obtain ⟨t114, A140, H⟩ := H
            replace H : (some (t114, 0)) = some (r1, r2) := H
            have A14 := Aside0.mk A140
            clear A140
            simp only [Option.some.injEq, Prod.mk.injEq] at H
            obtain ⟨rfl, rfl⟩ := H
            have q15 : (a0 : Int) ≤ ((l2.length : Int) : Int) := of_decide_eq_true (by first | (with_reducible assumption) | assumption)
            obtain ⟨i015, hi015, _, hsz15, _⟩ := info_parts info22
            have hroom15 : l2.length ≤ c2 := HC2.out
            have hC15 : Kd.C (Kd.slice 5 (Kd.int .u8)) _ A2 l2.length l2 := HR2.out
            have hcut15 := cut_to (P := Try.prog) 51 22 .i64 Try.underlying51 hi015 A2 l2.length c2 a0 (of_decide_eq_true (by first | (with_reducible assumption) | assumption)) q15 hroom15
            have hr15 := Kd.C_take (m := (a0 : Int).toNat) hC15 (by omega)
            have hy15 : y106.length = (a0 : Int).toNat := (by rw [Ny106.out, List.length_take]; omega)
            rw [← Ny106.out] at hr15
            rw [← hy15] at hcut15
            have HR109 := Aside0.mk hr15
            have HC109 := Aside0.mk (show y106.length ≤ c2 from by omega)
            clear hr15 hC15 hroom15 hi015 hsz15
            have KY15 := Aside0.mk hy15
            clear hy15
            replace q15 := eq_true q15
            go_wp2_with (first | ((with_reducible refine gate_callee (f := 75) rfl ?_); refine goesL_ (some 34) rfl rfl Try.func75 (by kernel_rfl) rfl #[.int .i64 a0, .int .i64 a1, .slice A2 y106.length c2] rfl (by (try simp only [List.map_toArray, List.map_cons, List.map_nil]); first | done | rfl | (simp only [List.length_drop, List.length_take]; rfl)) ?_; (with_reducible refine (code_Encode.calls kj4 a0 a1 _ _ y106 t110 t113 _ ?side1 ?side2 A13.out).mono ?_); (case side1 => repeat (first | exact (Kd.C_below HR109.out HB.out) | (with_reducible refine Kd.C_alloc ?_ _) | (with_reducible refine Kd.C_drewN ?_ _) | (with_reducible refine Kd.C_drew ?_))); (case side2 => exact HC109.out); rintro e w16 ⟨v111, rfl, ho0, hb⟩; refine ⟨_, rfl, ?_⟩; have n0_ := Aside0.mk (Kd.N_lower (Kd.N_mono (ok' := fun k_ => True) ho0 (fun k_ hk_ => trivial)) (below_size (by repeat (first | (with_reducible first | exact HB.out | apply below_alloc | apply pw_below_drewN | apply below_drew1) | exact HB.out)))); have n1_ := Aside0.mk (below_step (by repeat (first | (with_reducible first | exact HB.out | apply below_alloc | apply pw_below_drewN | apply below_drew1) | exact HB.out)) hb); clear HB; have HO112 := n0_; have HB := n1_; clear n0_ n1_; (try clear hb); (try clear hb2); (try clear hk); (try clear hi); (try clear ho0); obtain ⟨Ao17, co17, eo17⟩ := Kd.N_slice HO112.out; subst eo17) | ((with_reducible refine gate_callee (f := 98) rfl ?_); refine goesL_ (some 39) rfl rfl Try.func98 (by kernel_rfl) rfl #[.slice Ao17 t110.length co17, .slice A2 l2.length c2] rfl (by (try simp only [List.map_toArray, List.map_cons, List.map_nil]); first | done | rfl | (simp only [List.length_drop, List.length_take]; rfl)) ?_; (with_reducible refine (code_same.calls _ _ t110 _ _ l2 t114 _ ?side1 ?side2 ?side3 ?side4 A14.out).mono ?_); (case side1 => repeat (first | exact (Kd.N_reads' HO112.out).2.2 | (with_reducible refine Kd.C_alloc ?_ _) | (with_reducible refine Kd.C_drewN ?_ _) | (with_reducible refine Kd.C_drew ?_))); (case side2 => exact (Kd.N_reads' HO112.out).2.1); (case side3 => repeat (first | exact (Kd.C_below HR2.out HB.out) | (with_reducible refine Kd.C_alloc ?_ _) | (with_reducible refine Kd.C_drewN ?_ _) | (with_reducible refine Kd.C_drew ?_))); (case side4 => exact HC2.out); rintro e w' ⟨rfl, ⟨nd, rfl⟩⟩; refine ⟨_, rfl, ?_⟩))
            go_ret2
            exact ⟨by first | rfl | (simp [errW_none, errW_some] <;> rfl) | (simp [*, errW_none, errW_some] <;> rfl), by repeat (first | (with_reducible first | exact HB.out | apply below_alloc | apply pw_below_drewN | apply below_drew1) | exact HB.out)⟩
          · rw [if_neg c12] at H
            exact absurd H (by simp)
        · rw [if_neg c11] at H
          exact absurd H (by simp)
end Go.Proofs.Ytbogmlckbkogiaa.P
namespace Go.Proofs.Ytbogmlckbkogiaa.P
open Go.Proofs.Ytbogmlckbkogiaa.Leaf
open Go.RowKit Go.Proofs.YtbogmlckbkogiaaW.PrintWords Go.Proofs.YtbogmlckbkogiaaW.PrintLast Go.Proofs.YtbogmlckbkogiaaW.PrintMore
attribute [local go_sem] max2_int min2_int max_two min_two max_three min_three max_four min_four   -- for this text's walks alone
set_option linter.unusedVariables false
set_option linter.unusedSimpArgs false
mutual
def code_Delta.j0 : Nat → Int → Int → List (List Int) → List Int → Bool → Option ((List (List Int)) × Int)
  | 0, _, _, _, _, _ => none
  | k + 1, x0, x2, x12, x14, x47 => if x47 = true then (some (([] : List (List Int)), 1)) else (if 0 ≤ x0 then (if x0 ≤ (x12.length : Int) then ((some (x12.drop (x0 : Int).toNat : List (List Int))).bind fun y109 => (code_Delta.l0 k x2 x14 ([] : List (List Int)) y109 (y109.length : Int) 0)) else (none)) else (none))
def code_Delta.l0 : Nat → Int → List Int → List (List Int) → List (List Int) → Int → Int → Option ((List (List Int)) × Int)
  | 0, _, _, _, _, _, _ => none
  | k + 1, x2, x14, x16, x50, x51, x52 => if x52 < x51 then (if 0 ≤ x52 then (if x52 < (x50.length : Int) then (if 0 ≤ (x14.length : Int) then (if ((x14.length : Int) : Int).toNat ≤ 281474976710656 then (if 0 ≤ x2 then (if x2 < ((rd_L1 x50 x52).length : Int) then ((gf_AddMul.f k (List.replicate ((x14.length : Int) : Int).toNat 0) x14 (rd (rd_L1 x50 x52) x2)).bind fun bt118 => (if x16.length < 5864062014805 then (code_Delta.l0 k x2 x14 (x16 ++ [bt118.1]) x50 x51 (wrap64 (x52 + 1))) else (none))) else (none)) else (none)) else (none)) else (none)) else (none)) else (none)) else (some (x16, 0))
end
def code_Delta.f (k : Nat) (a0 : Int) (a1 : Int) (a2 : Int) (l3 : List Int) (l4 : List Int) : Option ((List (List Int)) × Int) := (matrix_Cauchy.f k a0 a1).bind fun bt101 => ((gf_AddMul.f k l3 l4 1).bind fun bt105 => (if bt101.2 = 0 then (if a2 < 0 then (code_Delta.j0 k a0 a2 bt101.1 bt105.1 true) else (if a2 ≥ a0 then (code_Delta.j0 k a0 a2 bt101.1 bt105.1 true) else (code_Delta.j0 k a0 a2 bt101.1 bt105.1 (!bt105.2)))) else (code_Delta.j0 k a0 a2 bt101.1 bt105.1 true)))
theorem code_Delta.mono_l : ∀ k, (∀ y0 y1 y2 y3 y4, LeO (code_Delta.j0 k y0 y1 y2 y3 y4) (code_Delta.j0 (k + 1) y0 y1 y2 y3 y4)) ∧ (∀ y0 y1 y2 y3 y4 y5, LeO (code_Delta.l0 k y0 y1 y2 y3 y4 y5) (code_Delta.l0 (k + 1) y0 y1 y2 y3 y4 y5))
  | 0 => ⟨fun _ _ _ _ _ r h => by simp [code_Delta.j0] at h, fun _ _ _ _ _ _ r h => by simp [code_Delta.l0] at h⟩
  | k + 1 => by
    obtain ⟨ih0, ih1⟩ := code_Delta.mono_l k
    refine ⟨?_, ?_⟩
    · intro y0 y1 y2 y3 y4
      unfold code_Delta.j0
      repeat' first
      | (with_reducible exact ih0 _ _ _ _ _)
      | (with_reducible exact ih1 _ _ _ _ _ _)
      | (with_reducible exact gf_AddMul.mono _ _ _ _)
      | (with_reducible exact matrix_Cauchy.mono _ _ _)
      | (with_reducible exact LeO.refl _)
      | (with_reducible exact LeO.none _)
      | (with_reducible refine LeO.ite ?_ ?_)
      | (with_reducible refine LeO.bind ?_ (fun _ => ?_))
      | exact ih0 _ _ _ _ _
      | exact ih1 _ _ _ _ _ _
      | exact gf_AddMul.mono _ _ _ _
      | exact matrix_Cauchy.mono _ _ _
      | exact LeO.none _
      | refine LeO.ite ?_ ?_
      | refine LeO.bind ?_ (fun _ => ?_)
    · intro y0 y1 y2 y3 y4 y5
      unfold code_Delta.l0
      repeat' first
      | (with_reducible exact ih0 _ _ _ _ _)
      | (with_reducible exact ih1 _ _ _ _ _ _)
      | (with_reducible exact gf_AddMul.mono _ _ _ _)
      | (with_reducible exact matrix_Cauchy.mono _ _ _)
      | (with_reducible exact LeO.refl _)
      | (with_reducible exact LeO.none _)
      | (with_reducible refine LeO.ite ?_ ?_)
      | (with_reducible refine LeO.bind ?_ (fun _ => ?_))
      | exact ih0 _ _ _ _ _
      | exact ih1 _ _ _ _ _ _
      | exact gf_AddMul.mono _ _ _ _
      | exact matrix_Cauchy.mono _ _ _
      | exact LeO.none _
      | refine LeO.ite ?_ ?_
      | refine LeO.bind ?_ (fun _ => ?_)
theorem code_Delta.mono : ∀ a0 a1 a2 a3 a4 k, LeO (code_Delta.f k a0 a1 a2 a3 a4) (code_Delta.f (k + 1) a0 a1 a2 a3 a4) := by
  intro a0 a1 a2 a3 a4 k
  obtain ⟨ih0, ih1⟩ := code_Delta.mono_l k
  unfold code_Delta.f
  repeat' first
      | (with_reducible exact ih0 _ _ _ _ _)
      | (with_reducible exact ih1 _ _ _ _ _ _)
      | (with_reducible exact gf_AddMul.mono _ _ _ _)
      | (with_reducible exact matrix_Cauchy.mono _ _ _)
      | (with_reducible exact LeO.refl _)
      | (with_reducible exact LeO.none _)
      | (with_reducible refine LeO.ite ?_ ?_)
      | (with_reducible refine LeO.bind ?_ (fun _ => ?_))
      | exact ih0 _ _ _ _ _
      | exact ih1 _ _ _ _ _ _
      | exact gf_AddMul.mono _ _ _ _
      | exact matrix_Cauchy.mono _ _ _
      | exact LeO.none _
      | refine LeO.ite ?_ ?_
      | refine LeO.bind ?_ (fun _ => ?_)
def code_Delta.T9 : Bool × List (List Nat × List Nat) := (true, [([], []), ([0], [0]), ([1, 1], [1]), ([], []), ([], []), ([], []), ([4, 5], [4, 5]), ([6], [6]), ([2, 3, 7], [2, 3, 7]), ([8], [8]), ([9], [9]), ([9], [9]), ([10, 8, 0, 1, 2, 3, 4, 5, 6, 7, 8, 9, 10], [10]), ([11, 12, 0, 1, 2, 3, 4, 5, 6, 7, 8, 9, 10, 11, 12], [11])])
def code_Delta.B9 : List Nat := [0, 1, 3, 0, 0, 0, 48, 112, 255, 511, 1023, 1023, 2047, 8191]
theorem code_Delta.tab9 : rtab .any (opsOf Try.f83 9) = code_Delta.T9 := by kernel_rfl
theorem code_Delta.bits9 : waitsOk code_Delta.T9.2 code_Delta.B9 = true := by kernel_rfl
set_option maxHeartbeats 8000000 in
set_option maxRecDepth 100000 in
theorem code_Delta.calls (k : Nat) (a0 : Int) (a1 : Int) (a2 : Int) (A3 : Option Addr) (c3 : Nat) (l3 : List Int) (A4 : Option Addr) (c4 : Nat) (l4 : List Int) (r1 : List (List Int)) (r2 : Int) (w : World) (hr3 : Kd.C (Kd.int .u8) w A3 l3.length l3) (hc3 : l3.length ≤ c3) (hr4 : Kd.C (Kd.int .u8) w A4 l4.length l4) (hc4 : l4.length ≤ c4) (h : code_Delta.f k a0 a1 a2 l3 l4 = some (r1, r2)) :
    Calls Try.prog 83 #[.int .i64 a0, .int .i64 a1, .int .i64 a2, .slice A3 l3.length c3, .slice A4 l4.length c4] w fun e w' => ∃ v0_ : Value, e = .returned (.tuple #[v0_, .int .i64 r2]) ∧ Kd.S (Kd.slice 5 (Kd.int .u8)) 22 w' w.heap.size (fun _ => True) v0_ r1 ∧ Below w.heap.size w w' := by
  have HR3 := Aside0.mk hr3
  have HC3 := Aside0.mk hc3
  clear hr3 hc3
  have HR4 := Aside0.mk hr4
  have HC4 := Aside0.mk hc4
  clear hr4 hc4
  have HB := Aside0.mk (Below.refl w.heap.size w)
  have H : ((matrix_Cauchy.f k a0 a1).bind fun bt101 => ((gf_AddMul.f k l3 l4 1).bind fun bt105 => (if bt101.2 = 0 then (if a2 < 0 then (code_Delta.j0 k a0 a2 bt101.1 bt105.1 true) else (if a2 ≥ a0 then (code_Delta.j0 k a0 a2 bt101.1 bt105.1 true) else (code_Delta.j0 k a0 a2 bt101.1 bt105.1 (!bt105.2)))) else (code_Delta.j0 k a0 a2 bt101.1 bt105.1 true)))) = some (r1, r2) := h
  clear h
  replace H := Option.bind_eq_some_iff.mp H
  obtain ⟨⟨t101, t102⟩, A60, H⟩ := H
  replace H : ((gf_AddMul.f k l3 l4 1).bind fun bt105 => (if t102 = 0 then (if a2 < 0 then (code_Delta.j0 k a0 a2 t101 bt105.1 true) else (if a2 ≥ a0 then (code_Delta.j0 k a0 a2 t101 bt105.1 true) else (code_Delta.j0 k a0 a2 t101 bt105.1 (!bt105.2)))) else (code_Delta.j0 k a0 a2 t101 bt105.1 true))) = some (r1, r2) := H
  have A6 := Aside0.mk A60
  clear A60
  replace H := Option.bind_eq_some_iff.mp H
  obtain ⟨⟨t105, t106⟩, A70, H⟩ := H
  replace H : (if t102 = 0 then (if a2 < 0 then (code_Delta.j0 k a0 a2 t101 t105 true) else (if a2 ≥ a0 then (code_Delta.j0 k a0 a2 t101 t105 true) else (code_Delta.j0 k a0 a2 t101 t105 (!t106)))) else (code_Delta.j0 k a0 a2 t101 t105 true)) = some (r1, r2) := H
  have A7 := Aside0.mk A70
  clear A70
  have HC8 := Aside0.mk H
  clear H
  go_enter Try.func83, Try.ntmps83
  go_upto_region 3 with (first | ((with_reducible refine gate_callee (f := 71) rfl ?_); refine goesL_ (some 24) rfl rfl Try.func71 (by kernel_rfl) rfl #[.int .i64 a0, .int .i64 a1] rfl (by (try simp only [List.map_toArray, List.map_cons, List.map_nil]); first | done | rfl | (simp only [List.length_drop, List.length_take]; rfl)) ?_; (with_reducible refine (matrix_Cauchy.calls k a0 a1 t101 t102 _ A6.out).mono ?_); rintro e w9 ⟨v103, rfl, ho0, hb⟩; refine ⟨_, rfl, ?_⟩; have n0_ := Aside0.mk (Kd.S_lower ho0 (below_size (by repeat (first | (with_reducible first | exact HB.out | apply below_alloc | apply pw_below_drewN | apply below_drew1) | exact HB.out)))); have n1_ := Aside0.mk (below_step (by repeat (first | (with_reducible first | exact HB.out | apply below_alloc | apply pw_below_drewN | apply below_drew1) | exact HB.out)) hb); clear HB; have HO104 := n0_; have HB := n1_; clear n0_ n1_; (try clear hb); (try clear hb2); (try clear hk); (try clear hi); (try clear ho0)) | ((with_reducible refine gate_callee (f := 48) rfl ?_); refine goesL_ (some 30) rfl rfl Try.func48 (by kernel_rfl) rfl #[.slice A3 l3.length c3, .slice A4 l4.length c4, .int .u8 1] rfl (by (try simp only [List.map_toArray, List.map_cons, List.map_nil]); first | done | rfl | (simp only [List.length_drop, List.length_take]; rfl)) ?_; (with_reducible refine (gf_AddMul.calls k _ _ l3 _ _ l4 1 t105 t106 _ ?side1 ?side2 ?side3 ?side4 A7.out).mono ?_); (case side1 => repeat (first | exact (Kd.C_below HR3.out HB.out) | (with_reducible refine Kd.C_alloc ?_ _) | (with_reducible refine Kd.C_drewN ?_ _) | (with_reducible refine Kd.C_drew ?_))); (case side2 => exact HC3.out); (case side3 => repeat (first | exact (Kd.C_below HR4.out HB.out) | (with_reducible refine Kd.C_alloc ?_ _) | (with_reducible refine Kd.C_drewN ?_ _) | (with_reducible refine Kd.C_drew ?_))); (case side4 => exact HC4.out); rintro e w10 ⟨v107, rfl, ho0, hb⟩; refine ⟨_, rfl, ?_⟩; have n0_ := Aside0.mk (Kd.S_elder' (by (with_reducible repeat (first | apply Kd.S_alloc | apply Kd.S_drewN | apply Kd.S_drew)); exact HO104.out) (Kd.R_base ho0) hb); have n1_ := Aside0.mk (Kd.R_lower ho0 (below_size (by repeat (first | (with_reducible first | exact HB.out | apply below_alloc | apply pw_below_drewN | apply below_drew1) | exact HB.out)))); have n2_ := Aside0.mk (below_step (by repeat (first | (with_reducible first | exact HB.out | apply below_alloc | apply pw_below_drewN | apply below_drew1) | exact HB.out)) hb); clear HO104; clear HB; have HO104 := n0_; have HO108 := n1_; have HB := n2_; clear n0_ n1_ n2_; (try clear hb); (try clear hb2); (try clear hk); (try clear hi); (try clear ho0)))
  (try simp only [Act.put, List.setIfInBounds_toArray, List.set_cons_zero, List.set_cons_succ])
  go_cut [47] (fun v47 wc => ∃ (kq : Nat) (x47_7 : Bool), v47 = .bool x47_7 ∧ Aside0 (code_Delta.j0 kq a0 a2 t101 t105 x47_7 = some (r1, r2)) ∧ Aside0 (kq ≤ k) ∧ Aside0 (Kd.S (Kd.slice 5 (Kd.int .u8)) 22 wc w.heap.size (fun k_ => some k_ ≠ (v107 : Value).ownBlock) v103 t101) ∧ Aside0 (Kd.R (Kd.int .u8) 5 wc w.heap.size (fun _ => True) v107 t105) ∧ Aside0 (Below w.heap.size w wc))
  case first =>
    have H := HC8.out
    clear HC8
    by_cases c11 : t102 = 0
    · rw [if_pos c11] at H
      have c11b0 : (t102 == 0) = true := beq_iff_eq.mpr c11
      have c11b1 : (t102 != 0) = false := bne_eq_false_iff_eq.mpr c11
      clear c11
      (first | rw [c11b0] | (simp only [i64_w, i32_w]; rw [c11b0]) | skip)
      by_cases c12 : a2 < 0
      · rw [if_pos c12] at H
        have c12b0 : decide (a2 < 0) = true := decide_eq_true c12
        clear c12
        have H' := Aside0.mk H
        clear H
        go_wp2
        go_meet
        case rel => exact ⟨_, (true), (by first | rfl | (simp; done) | (simp [*]; done)), H', ⟨by first | omega | exact Nat.le_refl _⟩, ⟨by (with_reducible repeat (first | apply Kd.S_alloc | apply Kd.S_drewN | apply Kd.S_drew)); exact Kd.S_mono HO104.out (fun _ hk => hk.2)⟩, ⟨by (with_reducible repeat (first | apply Kd.R_alloc | apply Kd.R_drewN | apply Kd.R_drew)); exact HO108.out⟩, ⟨by repeat (first | (with_reducible first | exact HB.out | apply below_alloc | apply pw_below_drewN | apply below_drew1) | exact HB.out)⟩⟩
      · rw [if_neg c12] at H
        have c12b0 : decide (a2 < 0) = false := decide_eq_false c12
        clear c12
        by_cases c13 : a2 ≥ a0
        · rw [if_pos c13] at H
          have c13b0 : decide (a0 ≤ a2) = true := decide_eq_true c13
          clear c13
          have H' := Aside0.mk H
          clear H
          go_wp2
          go_meet
          case rel => exact ⟨_, (true), (by first | rfl | (simp; done) | (simp [*]; done)), H', ⟨by first | omega | exact Nat.le_refl _⟩, ⟨by (with_reducible repeat (first | apply Kd.S_alloc | apply Kd.S_drewN | apply Kd.S_drew)); exact Kd.S_mono HO104.out (fun _ hk => hk.2)⟩, ⟨by (with_reducible repeat (first | apply Kd.R_alloc | apply Kd.R_drewN | apply Kd.R_drew)); exact HO108.out⟩, ⟨by repeat (first | (with_reducible first | exact HB.out | apply below_alloc | apply pw_below_drewN | apply below_drew1) | exact HB.out)⟩⟩
        · rw [if_neg c13] at H
          have c13b0 : decide (a0 ≤ a2) = false := decide_eq_false c13
          clear c13
          have H' := Aside0.mk H
          clear H
          go_wp2
          go_meet
          case rel => exact ⟨_, (!t106), (by first | rfl | (simp; done) | (simp [*]; done)), H', ⟨by first | omega | exact Nat.le_refl _⟩, ⟨by (with_reducible repeat (first | apply Kd.S_alloc | apply Kd.S_drewN | apply Kd.S_drew)); exact Kd.S_mono HO104.out (fun _ hk => hk.2)⟩, ⟨by (with_reducible repeat (first | apply Kd.R_alloc | apply Kd.R_drewN | apply Kd.R_drew)); exact HO108.out⟩, ⟨by repeat (first | (with_reducible first | exact HB.out | apply below_alloc | apply pw_below_drewN | apply below_drew1) | exact HB.out)⟩⟩
    · rw [if_neg c11] at H
      have c11b0 : (t102 == 0) = false := beq_eq_false_iff_ne.mpr c11
      have c11b1 : (t102 != 0) = true := bne_iff_ne.mpr c11
      (first | rw [c11b0] | (simp only [i64_w, i32_w]; rw [c11b0]) | skip)
      have H' := Aside0.mk H
      clear H
      go_wp2
      go_meet
      case rel => exact ⟨_, (true), (by first | rfl | (simp; done) | (simp [*]; done)), H', ⟨by first | omega | exact Nat.le_refl _⟩, ⟨by (with_reducible repeat (first | apply Kd.S_alloc | apply Kd.S_drewN | apply Kd.S_drew)); exact Kd.S_mono HO104.out (fun _ hk => hk.2)⟩, ⟨by (with_reducible repeat (first | apply Kd.R_alloc | apply Kd.R_drewN | apply Kd.R_drew)); exact HO108.out⟩, ⟨by repeat (first | (with_reducible first | exact HB.out | apply below_alloc | apply pw_below_drewN | apply below_drew1) | exact HB.out)⟩⟩
  case rest =>
    clear HC8
    try clear c1
    try clear p2
    try clear c3
    try clear c4
    try clear c7
    try clear c8
    try clear c11
    try clear c11b0
    try clear c11b1
    try clear c12
    try clear c12b0
    try clear c13
    try clear c13b0
    obtain ⟨kq, x47_7, rfl, HA, HJ7, HO_12, HO_14, HB⟩ := hcut
    cases kq with
    | zero => exact absurd HA.out (by simp [code_Delta.j0])
    | succ kj7 =>
      have H := HA.out
      clear HA
      simp only [code_Delta.j0] at H
      by_cases c14 : x47_7 = true
      · subst c14
        have H1 : (some (([] : List (List Int)), 1)) = some (r1, r2) := by rw [if_pos rfl] at H; exact H
        clear H
        have H := H1
        clear H1
        simp only [Option.some.injEq, Prod.mk.injEq] at H
        obtain ⟨rfl, rfl⟩ := H
        go_wp2
        go_ret2
        exact ⟨_, by first | rfl | (simp [errW_none, errW_some] <;> rfl) | (simp [*, errW_none, errW_some] <;> rfl), by first | exact Kd.S_nil _ _ _ _ _ | exact Kd.N_nil _ _ _ _ _ | exact Kd.V_nil _ _ _ _ _ | exact Kd.Q_nil _ _ _ _ _ | exact Kd.R_nil _ _ _ _ _, by repeat (first | (with_reducible first | exact HB.out | apply below_alloc | apply pw_below_drewN | apply below_drew1) | exact HB.out)⟩
      · replace c14 := Bool.eq_false_iff.mpr c14
        subst c14
        have H1 : (if 0 ≤ a0 then (if a0 ≤ (t101.length : Int) then ((some (t101.drop (a0 : Int).toNat : List (List Int))).bind fun y109 => (code_Delta.l0 kj7 a2 t105 ([] : List (List Int)) y109 (y109.length : Int) 0)) else (none)) else (none)) = some (r1, r2) := by rw [if_neg (show ¬ (false = true) by decide)] at H; exact H
        clear H
        have H := H1
        clear H1
        by_cases c15 : 0 ≤ a0
        · rw [if_pos c15] at H
          have c15b0 := eq_true c15
          have c15b1 : decide (0 ≤ a0) = true := decide_eq_true c15
          clear c15
          by_cases c16 : a0 ≤ (t101.length : Int)
          · rw [if_pos c16] at H
            have c16b0 := eq_true c16
            have c16b1 : decide (a0 ≤ (t101.length : Int)) = true := decide_eq_true c16
            clear c16
            obtain ⟨y109, hy109⟩ : ∃ y_ : List (List Int), y_ = (t101.drop (a0 : Int).toNat) := ⟨_, rfl⟩
            replace H : (code_Delta.l0 kj7 a2 t105 ([] : List (List Int)) y109 (y109.length : Int) 0) = some (r1, r2) := by first | (rw [hy109]; with_reducible exact H) | (have H2_ := (Option.bind_some _ _).symm.trans H; rw [hy109]; with_reducible exact H2_) | (have H2_ := (Option.bind_some _ _).symm.trans H; with_reducible exact H2_) | with_reducible exact H | (rw [hy109]; exact H) | exact H
            have Ny109 := Aside0.mk hy109
            clear hy109
            have H' := Aside0.mk H
            clear H
            obtain ⟨Ao18, co18, eo18⟩ := Kd.S_slice HO_12.out
            subst eo18
            have q17 : (a0 : Int) ≤ ((t101.length : Int) : Int) := of_decide_eq_true (by first | (with_reducible assumption) | assumption)
            obtain ⟨i017, hi017, _, hsz17, _⟩ := info_parts info22
            have hroom17 : t101.length ≤ co18 := (Kd.S_reads' HO_12.out).2.1
            have hC17 : Kd.C (Kd.slice 5 (Kd.int .u8)) _ Ao18 t101.length t101 := (Kd.S_reads' HO_12.out).2.2
            have q017 : (0 : Int) ≤ (a0 : Int) := of_decide_eq_true (by first | (with_reducible assumption) | assumption)
            have hcut17 := cut_from (P := Try.prog) 51 22 .i64 Try.underlying51 hi017 1 hsz17 Ao18 t101.length co18 a0 q017 q17
            have hr17 := Kd.C_drop (m := (a0 : Int).toNat) (c := co18) hC17 (by omega) hroom17
            obtain ⟨A17, hA17⟩ : ∃ A1, A1 = (if co18 = (a0 : Int).toNat then Ao18 else (Ao18 : Option Addr).map (·.add ((a0 : Int).toNat * 1))) := ⟨_, rfl⟩
            obtain ⟨c17, hc17⟩ : ∃ c1, c1 = co18 - (a0 : Int).toNat := ⟨_, rfl⟩
            have hy17 : y109.length = t101.length - (a0 : Int).toNat := (by rw [Ny109.out, List.length_drop] <;> omega)
            rw [show (t101).drop (a0 : Int).toNat = y109 from Ny109.out.symm] at hr17
            replace hr17 : Kd.C (Kd.slice 5 (Kd.int .u8)) _ A17 y109.length y109 := (by rw [hA17]; exact hr17)
            rw [← hy17, ← hA17, ← hc17] at hcut17
            have HR112 := Aside0.mk hr17
            have HC112 := Aside0.mk (show y109.length ≤ c17 from by rw [hy17, hc17]; exact Nat.sub_le_sub_right hroom17 _)
            clear hr17 hC17 hroom17 hi017 hsz17 hc17
            have KY17 := Aside0.mk hy17
            have KA17 := Aside0.mk hA17
            clear hy17 hA17
            have KL17 := Aside0.mk (show (a0 : Int).toNat ≤ t101.length from by omega)
            replace q17 := eq_true q17
            go_wp2
            have HBo := HB
            clear HB
            have HB := Aside0.mk (Below.refl wc.heap.size wc)
            go_loopg [16, 52] kj7 (fun kq v16 v52 w' => ∃ (x16_2 : List (List Int)) (x52_2 : Int), v52 = .int .i64 x52_2 ∧ Aside0 (code_Delta.l0 kq a2 t105 x16_2 y109 (y109.length : Int) x52_2 = some (r1, r2)) ∧ Aside0 (kq ≤ kj7) ∧ Aside0 (Kd.R (Kd.int .u8) 5 w' w.heap.size (fun _ => True) v107 t105) ∧ Aside0 (Kd.S (Kd.slice 5 (Kd.int .u8)) 22 w' wc.heap.size (fun k_ => some k_ ≠ (v107 : Value).ownBlock) v16 x16_2) ∧ Aside0 (Below wc.heap.size wc w'))
            case atStart => exact ⟨(([] : List (List Int))), (0), (by first | rfl | (simp; done) | (simp [*]; done)), H', ⟨Nat.le_refl _⟩, ⟨by (with_reducible repeat (first | apply Kd.R_alloc | apply Kd.R_drewN | apply Kd.R_drew)); exact HO_14.out⟩, ⟨by first | exact Kd.S_nil _ _ _ _ _ | exact Kd.N_nil _ _ _ _ _ | exact Kd.V_nil _ _ _ _ _ | exact Kd.Q_nil _ _ _ _ _ | exact Kd.R_nil _ _ _ _ _⟩, ⟨by repeat (first | (with_reducible first | exact HB.out | apply below_alloc | apply pw_below_drewN | apply below_drew1) | exact HB.out)⟩⟩
            case round =>
              clear H'
              try clear c1
              try clear q1
              try clear p2
              try clear c3
              try clear c4
              try clear c7
              try clear c8
              try clear c11
              try clear c11b0
              try clear c11b1
              try clear c12
              try clear c12b0
              try clear c13
              try clear c13b0
              try clear c14
              try clear c15
              try clear c15b0
              try clear c15b1
              try clear c16
              try clear c16b0
              try clear c16b1
              try clear c17
              try clear q17
              try clear p2
              try clear q017
              try clear q17
              obtain ⟨x16_2, x52_2, rfl, HA, HK2, HO_14, HO_16, HB⟩ := hrel
              cases gk with
              | zero => exact absurd HA.out (by simp [code_Delta.l0])
              | succ k2 =>
                have H := HA.out
                clear HA
                simp only [code_Delta.l0] at H
                by_cases c19 : x52_2 < (y109.length : Int)
                · rw [if_pos c19] at H
                  have c19b0 : decide (x52_2 < (y109.length : Int)) = true := decide_eq_true c19
                  clear c19
                  by_cases c20 : 0 ≤ x52_2
                  · rw [if_pos c20] at H
                    have c20b0 : decide (0 ≤ x52_2) = true := decide_eq_true c20
                    clear c20
                    by_cases c21 : x52_2 < (y109.length : Int)
                    · rw [if_pos c21] at H
                      have c21b0 : decide (x52_2 < (y109.length : Int)) = true := decide_eq_true c21
                      clear c21
                      by_cases c22 : 0 ≤ (t105.length : Int)
                      · rw [if_pos c22] at H
                        have c22b0 := eq_true c22
                        have c22b1 : decide (0 ≤ (t105.length : Int)) = true := decide_eq_true c22
                        clear c22
                        by_cases c23 : ((t105.length : Int) : Int).toNat ≤ 281474976710656
                        · rw [if_pos c23] at H
                          have c23b0 := eq_true c23
                          have c23b1 : decide (((t105.length : Int) : Int).toNat ≤ 281474976710656) = true := decide_eq_true c23
                          clear c23
                          obtain ⟨y114, hy114⟩ : ∃ y_ : List Int, y_ = (List.replicate ((t105.length : Int) : Int).toNat 0) := ⟨_, rfl⟩
                          replace H : (if 0 ≤ a2 then (if a2 < ((rd_L1 y109 x52_2).length : Int) then ((gf_AddMul.f k2 y114 t105 (rd (rd_L1 y109 x52_2) a2)).bind fun bt118 => (if x16_2.length < 5864062014805 then (code_Delta.l0 k2 a2 t105 (x16_2 ++ [bt118.1]) y109 (y109.length : Int) (wrap64 (x52_2 + 1))) else (none))) else (none)) else (none)) = some (r1, r2) := by first | (rw [hy114]; with_reducible exact H) | (have H2_ := (Option.bind_some _ _).symm.trans H; rw [hy114]; with_reducible exact H2_) | (have H2_ := (Option.bind_some _ _).symm.trans H; with_reducible exact H2_) | with_reducible exact H | (rw [hy114]; exact H) | exact H
                          have Ny114 := Aside0.mk hy114
                          clear hy114
                          by_cases c24 : 0 ≤ a2
                          · rw [if_pos c24] at H
                            have c24b0 : decide (0 ≤ a2) = true := decide_eq_true c24
                            clear c24
                            by_cases c25 : a2 < ((rd_L1 y109 x52_2).length : Int)
                            · rw [if_pos c25] at H
                              have c25b0 : decide (a2 < ((rd_L1 y109 x52_2).length : Int)) = true := decide_eq_true c25
                              clear c25
                              replace H := Option.bind_eq_some_iff.mp H
                              obtain ⟨⟨t118, t119⟩, A260, H⟩ := H
                              replace H : (if x16_2.length < 5864062014805 then (code_Delta.l0 k2 a2 t105 (x16_2 ++ [t118]) y109 (y109.length : Int) (wrap64 (x52_2 + 1))) else (none)) = some (r1, r2) := H
                              have A26 := Aside0.mk A260
                              clear A260
                              by_cases c27 : x16_2.length < 5864062014805
                              · rw [if_pos c27] at H
                                have LMc27 := Aside0.mk c27
                                clear c27
                                obtain ⟨y122, hy122⟩ : ∃ y_ : List (List Int), y_ = (x16_2 ++ [t118]) := ⟨_, rfl⟩
                                replace H : (code_Delta.l0 k2 a2 t105 y122 y109 (y109.length : Int) (wrap64 (x52_2 + 1))) = some (r1, r2) := by first | (rw [hy122]; with_reducible exact H) | (have H2_ := (Option.bind_some _ _).symm.trans H; rw [hy122]; with_reducible exact H2_) | (have H2_ := (Option.bind_some _ _).symm.trans H; with_reducible exact H2_) | with_reducible exact H | (rw [hy122]; exact H) | exact H
                                have Ny122 := Aside0.mk hy122
                                clear hy122
                                have H' := Aside0.mk H
                                clear H
                                have p113 : 0 ≤ (x52_2 : Int) := of_decide_eq_true (by first | (with_reducible assumption) | assumption)
                                have q113 : x52_2 < (y109.length : Int) := of_decide_eq_true (by first | (with_reducible assumption) | assumption)
                                obtain ⟨ad113, A113_0, c113_0, e113, hx113_0, hl113_0, hi113_0⟩ := at_L1 HR112.out x52_2 p113 q113
                                cases e113
                                replace hx113_0 := (HB.out.cell (World.block_lt_of_cell? wc _ hx113_0)).trans hx113_0
                                have HR113_0 := Aside0.mk hi113_0
                                have HC113_0 := Aside0.mk hl113_0
                                clear hi113_0 hl113_0
                                replace p113 := eq_true p113
                                replace q113 := eq_true q113
                                try go_wp2
                                have n0_ := Aside0.mk (Kd.R_drew HO_14.out)
                                have n1_ := Aside0.mk (Kd.S_drew HO_16.out)
                                have n2_ := Aside0.mk (below_drew1 HB.out)
                                clear HO_14
                                clear HO_16
                                clear HB
                                have HO_14 := n0_
                                have HO_16 := n1_
                                have HB := n2_
                                clear n0_ n1_ n2_
                                obtain ⟨Ao29, co29, eo29⟩ := Kd.R_slice HO_14.out
                                (first | subst eo29 | (injection eo29 with f1_ f2_ f3_; have f4_ := f1_.symm; have f5_ := f3_.symm; clear f1_ f2_ f3_; subst f4_; subst f5_))
                                have p117 : 0 ≤ (a2 : Int) := of_decide_eq_true (by first | (with_reducible assumption) | assumption)
                                have q117 : a2 < ((rd_L1 y109 x52_2).length : Int) := of_decide_eq_true (by first | (with_reducible assumption) | assumption)
                                obtain ⟨ad117, e117, hx117_0⟩ := Kd.at_int HR113_0.out a2 p117 q117
                                have hw117_0 := hx117_0
                                cases e117
                                replace hx117_0 := (HB.out.cell (World.block_lt_of_cell? wc _ hx117_0)).trans hx117_0
                                replace p117 := eq_true p117
                                replace q117 := eq_true q117
                                refine start_ (n := 14) (S := fun w' => w'.cell? (ad117.add (a2).toNat) = some (.int .u8 (rd (rd_L1 y109 x52_2) a2))) (ds := []) #[false, false, false, false, false, false, false, false, false, false, false, false, false, false] (by kernel_rfl) rfl rfl (((HB.out.cell (World.block_lt_of_cell? wc _ hw117_0)).trans hw117_0)) (fun hHeld => ?_); refine with_tabW code_Delta.tab9 code_Delta.bits9 (fun HT_ HW_ => ?_)
                                generalize wr.drew = w28 at HO_14 HO_16 HB hx117_0 hHeld ⊢
                                refine pure_ (i := 0) (N := some 57) (v := ?_) (a' := ?_) #[true, false, false, false, false, false, false, false, false, false, false, false, false, false] rfl rfl (any_of HT_.out (by kernel_rfl)) (fun _ _ _ h => h) (Or.inl ⟨by rfl, ?_⟩) ?_ ?_
                                rotate_left
                                · intro w'
                                  go_simp
                                  with_reducible rfl
                                rotate_left
                                · simp only [Act.put, List.setIfInBounds_toArray, List.set_cons_zero, List.set_cons_succ, i64_w, i32_w]
                                  rfl
                                refine pure_ (i := 1) (N := some 58) (v := ?_) (a' := ?_) #[true, true, false, false, false, false, false, false, false, false, false, false, false, false] rfl rfl (any_of HT_.out (by kernel_rfl)) (fun _ _ _ h => h) (Or.inl ⟨by rfl, ?_⟩) ?_ ?_
                                rotate_left
                                · intro w'
                                  go_simp
                                  with_reducible rfl
                                rotate_left
                                · simp only [Act.put, List.setIfInBounds_toArray, List.set_cons_zero, List.set_cons_succ, i64_w, i32_w]
                                  rfl
                                refine pure_ (i := 3) (N := some 60) (v := ?_) (a' := ?_) #[true, true, false, true, false, false, false, false, false, false, false, false, false, false] rfl rfl (any_of HT_.out (by kernel_rfl)) (fun _ _ _ h => h) (Or.inl ⟨by rfl, ?_⟩) ?_ ?_
                                rotate_left
                                · intro w'
                                  go_simp
                                  with_reducible rfl
                                rotate_left
                                · simp only [Act.put, List.setIfInBounds_toArray, List.set_cons_zero, List.set_cons_succ, i64_w, i32_w]
                                  rfl
                                refine pure_ (i := 4) (N := some 61) (v := ?_) (a' := ?_) #[true, true, false, true, true, false, false, false, false, false, false, false, false, false] rfl rfl (any_of HT_.out (by kernel_rfl)) (fun _ _ _ h => h) (Or.inl ⟨by rfl, ?_⟩) ?_ ?_
                                rotate_left
                                · intro w'
                                  go_simp
                                  with_reducible rfl
                                rotate_left
                                · simp only [Act.put, List.setIfInBounds_toArray, List.set_cons_zero, List.set_cons_succ, i64_w, i32_w]
                                  rfl
                                refine pure_ (i := 5) (N := some 62) (v := ?_) (a' := ?_) #[true, true, false, true, true, true, false, false, false, false, false, false, false, false] rfl rfl (any_of HT_.out (by kernel_rfl)) (fun _ _ _ h => h) (Or.inl ⟨by rfl, ?_⟩) ?_ ?_
                                rotate_left
                                · intro w'
                                  go_simp
                                  with_reducible rfl
                                rotate_left
                                · simp only [Act.put, List.setIfInBounds_toArray, List.set_cons_zero, List.set_cons_succ, i64_w, i32_w]
                                  rfl
                                refine pure_ (i := 6) (N := some 63) (v := ?_) (a' := ?_) #[true, true, false, true, true, true, true, false, false, false, false, false, false, false] rfl rfl (any_of HT_.out (by kernel_rfl)) (fun _ _ _ h => h) (Or.inl ⟨by rfl, ?_⟩) ?_ ?_
                                rotate_left
                                · intro w'
                                  go_simp
                                  with_reducible rfl
                                rotate_left
                                · simp only [Act.put, List.setIfInBounds_toArray, List.set_cons_zero, List.set_cons_succ, i64_w, i32_w]
                                  rfl
                                refine take_ (i := 7) (N := some 64) (v := ?_) (a' := ?_) #[true, true, false, true, true, true, true, true, false, false, false, false, false, false] rfl rfl (take_ofW HT_.out HW_.out (by kernel_rfl)) (fun _ _ _ h => h) (Or.inl ⟨by rfl, ?_⟩) hHeld ?_ ?_
                                rotate_left
                                · intro w' s0
                                  go_simp
                                  with_reducible rfl
                                rotate_left
                                · simp only [Act.put, List.setIfInBounds_toArray, List.set_cons_zero, List.set_cons_succ, i64_w, i32_w]
                                  rfl
                                refine one_ (i := 2) (N := some 59) #[true, true, true, true, true, true, true, true, false, false, false, false, false, false] rfl rfl (one_of HT_.out (by kernel_rfl)) (by decide) (fun K hK => ?_)
                                refine Kd.R_make_step (Kd.int .u8) _ 5 (by rfl) (N := 59) rfl 22 _ _ rfl (t105.length : Int) rfl rfl Try.underlying22 (.int .u8 0) 1 info5 rfl (by decide) (by omega) 0 (ok := fun _ => True) (okp := fun _ => True) rfl (fun _ hk => hk) trivial (of_decide_eq_true (by first | (with_reducible assumption) | assumption)) (Nat.le_trans (Nat.mul_le_mul_right _ (of_decide_eq_true (by first | (with_reducible assumption) | assumption) : (t105.length : Int).toNat ≤ 281474976710656)) (by omega)) (Below.refl _ _) (Nat.le_refl _) ?_
                                intro v115 w30 ho31 hb hg_ hnew_
                                clear hg_ hnew_
                                (first | rw [← Ny114.out] at ho31 | (simp only [Int.reduceToNat] at ho31; rw [← Ny114.out] at ho31))
                                have n0_ := Aside0.mk (Kd.R_elder' (by (with_reducible repeat (first | apply Kd.R_alloc | apply Kd.R_drewN | apply Kd.R_drew)); exact HO_14.out) (Kd.R_base ho31) hb)
                                have n1_ := Aside0.mk (Kd.S_elder' (by (with_reducible repeat (first | apply Kd.S_alloc | apply Kd.S_drewN | apply Kd.S_drew)); exact HO_16.out) (Kd.R_base ho31) hb)
                                have n2_ := Aside0.mk (Kd.R_lower (Kd.R_new' ho31 (Kd.R_lt (by (with_reducible repeat (first | apply Kd.R_alloc | apply Kd.R_drewN | apply Kd.R_drew)); exact HO_14.out))) (below_size (by repeat (first | (with_reducible first | exact HB.out | apply below_alloc | apply pw_below_drewN | apply below_drew1) | exact HB.out))))
                                have n3_ := Aside0.mk (below_step (by repeat (first | (with_reducible first | exact HB.out | apply below_alloc | apply pw_below_drewN | apply below_drew1) | exact HB.out)) hb)
                                clear HO_14
                                clear HO_16
                                clear HB
                                have HO_14 := n0_
                                have HO_16 := n1_
                                have HO116 := n2_
                                have HB := n3_
                                clear n0_ n1_ n2_ n3_
                                clear hb ho31
                                obtain ⟨Ao32, co32, eo32⟩ := Kd.R_slice HO116.out
                                (first | subst eo32 | (injection eo32 with f1_ f2_ f3_; have f4_ := f1_.symm; have f5_ := f3_.symm; clear f1_ f2_ f3_; subst f4_; subst f5_))
                                refine hK.out _ _ (((HB.out.cell (World.block_lt_of_cell? wc _ hw117_0)).trans hw117_0)) (fun hHeld => ?_)
                                clear hK K
                                refine norm_ (a' := ?_) ?_ ?_
                                rotate_left
                                · show Act.put _ (some 59) _ = _
                                  simp only [Act.put, List.setIfInBounds_toArray, List.set_cons_zero, List.set_cons_succ, i64_w, i32_w]
                                  rfl
                                refine one_ (i := 8) (N := some 65) #[true, true, true, true, true, true, true, true, true, false, false, false, false, false] rfl rfl (one_of HT_.out (by kernel_rfl)) (by decide) (fun K hK => ?_)
                                refine goes_ Try.func48 (by kernel_rfl) rfl #[.slice Ao32 y114.length co32, .slice Ao29 t105.length co29, .int .u8 (rd (rd_L1 y109 x52_2) a2)] (by rfl) rfl rfl (by (try simp only [List.map_toArray, List.map_cons, List.map_nil]); first | done | rfl | (simp only [List.length_drop, List.length_take]; rfl)) ?_
                                with_reducible refine (gf_AddMul.calls k2 _ _ y114 _ _ t105 (rd (rd_L1 y109 x52_2) a2) t118 t119 _ ?side1 ?side2 ?side3 ?side4 A26.out).mono ?_
                                (case side1 => repeat (first | exact (Kd.R_reads' HO116.out).2.2 | (with_reducible refine Kd.C_alloc ?_ _) | (with_reducible refine Kd.C_drewN ?_ _) | (with_reducible refine Kd.C_drew ?_)))
                                (case side2 => exact (Kd.R_reads' HO116.out).2.1)
                                (case side3 => repeat (first | exact (Kd.R_reads' HO_14.out).2.2 | (with_reducible refine Kd.C_alloc ?_ _) | (with_reducible refine Kd.C_drewN ?_ _) | (with_reducible refine Kd.C_drew ?_)))
                                (case side4 => exact (Kd.R_reads' HO_14.out).2.1)
                                rintro e w33 ⟨v120, rfl, ho0, hb⟩
                                refine ⟨_, rfl, ?_⟩
                                have n0_ := Aside0.mk (Kd.R_elder' (by (with_reducible repeat (first | apply Kd.R_alloc | apply Kd.R_drewN | apply Kd.R_drew)); exact HO_14.out) (Kd.R_base ho0) hb)
                                have n1_ := Aside0.mk (Kd.S_elder' (by (with_reducible repeat (first | apply Kd.S_alloc | apply Kd.S_drewN | apply Kd.S_drew)); exact HO_16.out) (Kd.R_base ho0) hb)
                                have n2_ := Aside0.mk (Kd.R_elder' (by (with_reducible repeat (first | apply Kd.R_alloc | apply Kd.R_drewN | apply Kd.R_drew)); exact HO116.out) (Kd.R_base ho0) hb)
                                have n3_ := Aside0.mk (Kd.R_lower (Kd.R_new' (Kd.R_new' ho0 (Kd.R_lt (by (with_reducible repeat (first | apply Kd.R_alloc | apply Kd.R_drewN | apply Kd.R_drew)); exact HO_14.out))) (Kd.R_lt (by (with_reducible repeat (first | apply Kd.R_alloc | apply Kd.R_drewN | apply Kd.R_drew)); exact HO116.out))) (below_size (by repeat (first | (with_reducible first | exact HB.out | apply below_alloc | apply pw_below_drewN | apply below_drew1) | exact HB.out))))
                                have n4_ := Aside0.mk (below_step (by repeat (first | (with_reducible first | exact HB.out | apply below_alloc | apply pw_below_drewN | apply below_drew1) | exact HB.out)) hb)
                                clear HO_14
                                clear HO_16
                                clear HO116
                                clear HB
                                have HO_14 := n0_
                                have HO_16 := n1_
                                have HO116 := n2_
                                have HO121 := n3_
                                have HB := n4_
                                clear n0_ n1_ n2_ n3_ n4_
                                (try clear hb)
                                (try clear hb2)
                                (try clear hk)
                                (try clear hi)
                                (try clear ho0)
                                refine hK.out _ _ (((HB.out.cell (World.block_lt_of_cell? wc _ hw117_0)).trans hw117_0)) (fun hHeld => ?_)
                                clear hK K
                                refine norm_ (a' := ?_) ?_ ?_
                                rotate_left
                                · show Act.put _ (some 65) _ = _
                                  simp only [Act.put, List.setIfInBounds_toArray, List.set_cons_zero, List.set_cons_succ, i64_w, i32_w]
                                  rfl
                                refine pure_ (i := 9) (N := some 56) (v := ?_) (a' := ?_) #[true, true, true, true, true, true, true, true, true, true, false, false, false, false] rfl rfl (any_of HT_.out (by kernel_rfl)) (fun _ _ _ h => h) (Or.inl ⟨by rfl, ?_⟩) ?_ ?_
                                rotate_left
                                · intro w'
                                  go_simp
                                  with_reducible rfl
                                rotate_left
                                · simp only [Act.put, List.setIfInBounds_toArray, List.set_cons_zero, List.set_cons_succ, i64_w, i32_w]
                                  rfl
                                refine pure_ (i := 10) (N := some 66) (v := ?_) (a' := ?_) #[true, true, true, true, true, true, true, true, true, true, true, false, false, false] rfl rfl (any_of HT_.out (by kernel_rfl)) (fun _ _ _ h => h) (Or.inl ⟨by rfl, ?_⟩) ?_ ?_
                                rotate_left
                                · intro w'
                                  go_simp
                                  with_reducible rfl
                                rotate_left
                                · simp only [Act.put, List.setIfInBounds_toArray, List.set_cons_zero, List.set_cons_succ, i64_w, i32_w]
                                  rfl
                                refine pure_ (i := 11) (N := some 67) (v := ?_) (a' := ?_) #[true, true, true, true, true, true, true, true, true, true, true, true, false, false] rfl rfl (any_of HT_.out (by kernel_rfl)) (fun _ _ _ h => h) (Or.inl ⟨by rfl, ?_⟩) ?_ ?_
                                rotate_left
                                · intro w'
                                  go_simp
                                  with_reducible rfl
                                rotate_left
                                · simp only [Act.put, List.setIfInBounds_toArray, List.set_cons_zero, List.set_cons_succ, i64_w, i32_w]
                                  rfl
                                refine pure_ (i := 12) (N := some 19) (v := ?_) (a' := ?_) #[true, true, true, true, true, true, true, true, true, true, true, true, true, false] rfl rfl (any_of HT_.out (by kernel_rfl)) (fun _ _ _ h => h) (Or.inl ⟨by rfl, ?_⟩) ?_ ?_
                                rotate_left
                                · intro w'
                                  go_simp
                                  with_reducible rfl
                                rotate_left
                                · simp only [Act.put, List.setIfInBounds_toArray, List.set_cons_zero, List.set_cons_succ, i64_w, i32_w]
                                  rfl
                                refine pure_ (i := 13) (N := some 20) (v := ?_) (a' := ?_) #[true, true, true, true, true, true, true, true, true, true, true, true, true, true] rfl rfl (any_of HT_.out (by kernel_rfl)) (fun _ _ _ h => h) (Or.inl ⟨by rfl, ?_⟩) ?_ ?_
                                rotate_left
                                · intro w'
                                  go_simp
                                  with_reducible rfl
                                rotate_left
                                · simp only [Act.put, List.setIfInBounds_toArray, List.set_cons_zero, List.set_cons_succ, i64_w, i32_w]
                                  rfl
                                refine done_ (done_of HT_.out (by kernel_rfl)) ?_
                                obtain ⟨Ao35, co35, eo35⟩ := Kd.R_slice HO121.out
                                subst eo35
                                try go_wp2_with (first | ((with_reducible refine gate_builtin (b := .append) (xs := #[.tmp 68, .tmp 70]) rfl ?_); at_builtin; refine Kd.S_append (Kd.slice 5 (Kd.int .u8)) (w0 := wc) wc.heap.size rfl (.tmp 68) (.tmp 70) 51 22 (.slice none 0 0) 24 rfl Try.underlying51 info22 rfl (by decide) (by omega) u16 x16_2 t118 [.slice Ao35 t118.length co35] (fun k_ => some k_ ≠ (.slice Ao29 t105.length co29 : Value).ownBlock ∧ some k_ ≠ (.slice Ao32 y114.length co32 : Value).ownBlock) (fun k_ => some k_ = (.slice Ao35 t118.length co35 : Value).ownBlock) rfl rfl ?aP (fun k_ hk_ => ((Kd.R_mono (ok' := fun k_ => ((fun k_ => some k_ ≠ (.slice Ao29 t105.length co29 : Value).ownBlock ∧ some k_ ≠ (.slice Ao32 y114.length co32 : Value).ownBlock)) k_ ∧ some k_ ≠ (u16 : Value).ownBlock) (Kd.R_apart' (HO121.out) (Kd.S_typed HO_16.out) (by decide)) (fun k_ hk => ⟨⟨hk.1.1.2, hk.1.2⟩, hk.2⟩))).1 k_ hk_.symm) ?aF ?aO ?aB ?aS ?aL ?_; (case aP => exact Kd.M_row (Kd.R_mono (Kd.R_tight rfl (Kd.R_mono (ok' := fun k_ => ((fun k_ => some k_ ≠ (.slice Ao29 t105.length co29 : Value).ownBlock ∧ some k_ ≠ (.slice Ao32 y114.length co32 : Value).ownBlock)) k_ ∧ some k_ ≠ (u16 : Value).ownBlock) (Kd.R_apart' (HO121.out) (Kd.S_typed HO_16.out) (by decide)) (fun k_ hk => ⟨⟨hk.1.1.2, hk.1.2⟩, hk.2⟩))) (fun _ h_ => h_))); (case aB => exact (by repeat (first | (with_reducible first | exact HB.out | apply below_alloc | apply pw_below_drewN | apply below_drew1) | exact HB.out))); (case aF => exact (fun k_ hk => ⟨Kd.fresh' (Kd.R_lt (by (with_reducible repeat (first | apply Kd.R_alloc | apply Kd.R_drewN | apply Kd.R_drew)); exact HO_14.out)) k_ hk, Kd.fresh' (Kd.R_lt (by (with_reducible repeat (first | apply Kd.R_alloc | apply Kd.R_drewN | apply Kd.R_drew)); exact HO116.out)) k_ hk⟩)); (case aO => exact (by (with_reducible repeat (first | apply Kd.S_alloc | apply Kd.S_drewN | apply Kd.S_drew)); exact Kd.S_mono HO_16.out (fun k_ hk => ⟨⟨hk.1.1, hk.1.2⟩, fun e_ => hk.2 e_⟩))); (case aS => exact (below_size (by repeat (first | (with_reducible first | exact HB.out | apply below_alloc | apply pw_below_drewN | apply below_drew1) | exact HB.out)))); (case aL => have := LMc27.out; omega); intro v123 w34 ho hb hg hat; rw [← Ny122.out] at ho; have n0_ := Aside0.mk (Kd.R_over' (by (with_reducible repeat (first | apply Kd.R_alloc | apply Kd.R_drewN | apply Kd.R_drew)); exact HO_14.out) (Kd.S_typed (by (with_reducible repeat (first | apply Kd.S_alloc | apply Kd.S_drewN | apply Kd.S_drew)); exact HO_16.out)) (by decide) hg); have n1_ := Aside0.mk (Kd.R_over' (by (with_reducible repeat (first | apply Kd.R_alloc | apply Kd.R_drewN | apply Kd.R_drew)); exact HO116.out) (Kd.S_typed (by (with_reducible repeat (first | apply Kd.S_alloc | apply Kd.S_drewN | apply Kd.S_drew)); exact HO_16.out)) (by decide) hg); have n2_ := Aside0.mk (hb); have n3_ := Aside0.mk (ho); clear HO_14; clear HO116; clear HB; clear HO_16; clear HO121; have HO_14 := n0_; have HO116 := n1_; have HB := n2_; have HO124 := n3_; clear n0_ n1_ n2_ n3_; clear ho hb hg hat))
                                go_roundg k2
                                case measure => have := HJ7.out; have := HK2.out; omega
                                case rel => exact ⟨(y122), (wrap64 (x52_2 + 1)), (by first | rfl | (simp; done) | (simp [*]; done)), H', ⟨by have := HJ7.out; have := HK2.out; omega⟩, ⟨by (with_reducible repeat (first | apply Kd.R_alloc | apply Kd.R_drewN | apply Kd.R_drew)); exact Kd.R_mono HO_14.out (fun _ hk => trivial)⟩, ⟨by (with_reducible repeat (first | apply Kd.S_alloc | apply Kd.S_drewN | apply Kd.S_drew)); exact Kd.S_mono HO124.out (fun _ hk => hk.1)⟩, ⟨by repeat (first | (with_reducible first | exact HB.out | apply below_alloc | apply pw_below_drewN | apply below_drew1) | exact HB.out)⟩⟩
                              · rw [if_neg c27] at H
                                exact absurd H (by simp)
                            · rw [if_neg c25] at H
                              exact absurd H (by simp)
                          · rw [if_neg c24] at H
                            exact absurd H (by simp)
                        · rw [if_neg c23] at H
                          exact absurd H (by simp)
                      · rw [if_neg c22] at H
                        exact absurd H (by simp)
                    · rw [if_neg c21] at H
                      exact absurd H (by simp)
                  · rw [if_neg c20] at H
                    exact absurd H (by simp)
                · rw [if_neg c19] at H
                  have c19b0 : decide (x52_2 < (y109.length : Int)) = false := decide_eq_false c19
                  clear c19
                  simp only [Option.some.injEq, Prod.mk.injEq] at H
                  obtain ⟨rfl, rfl⟩ := H
                  go_wp2
                  go_ret2
                  have HBn := Aside0.mk (below_step HBo.out HB.out)
                  exact ⟨_, by first | rfl | (simp [errW_none, errW_some] <;> rfl) | (simp [*, errW_none, errW_some] <;> rfl), by (with_reducible repeat (first | apply Kd.S_alloc | apply Kd.S_drewN | apply Kd.S_drew)); exact Kd.S_mono (Kd.S_lower HO_16.out (below_size HBo.out)) (fun _ hk => trivial), by repeat (first | (with_reducible first | exact HBn.out | apply below_alloc | apply pw_below_drewN | apply below_drew1) | exact HBn.out)⟩
          · rw [if_neg c16] at H
            exact absurd H (by simp)
        · rw [if_neg c15] at H
          exact absurd H (by simp)
end Go.Proofs.Ytbogmlckbkogiaa.P
