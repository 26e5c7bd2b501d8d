/- Words and walks that the claim CodeDecodes leans on (what it does not use is left out). -/
import Derived.Test.YtbogmlckbkogiaaMCodeDecodes5
import Derived.Test.YtbogmlckbkogiaaMCodeDecodes3
import Derived.Test.YtbogmlckbkogiaaMCodeDecodes1
import Derived.Test.YtbogmlckbkogiaaMCodeDecodes2
namespace Go.Proofs.Ytbogmlckbkogiaa.Red
open Go.RowKit Go.Proofs.YtbogmlckbkogiaaW.PrintWords Go.Proofs.Ytbogmlckbkogiaa.Leaf Go.Proofs.Ytbogmlckbkogiaa.Gf Go.Proofs.Ytbogmlckbkogiaa.H Go.Proofs.Ytbogmlckbkogiaa.Mx Go.Proofs.Ytbogmlckbkogiaa.P
set_option linter.unusedVariables false
set_option linter.unusedSimpArgs false
def cauM (k m : Nat) : Mat := matF (k + m) k (cau k m)
def cauR (a b : Int) : List (List Int) × Int := if 1 ≤ a ∧ 1 ≤ b ∧ b ≤ 255 - a then (oM (cauM a.toNat b.toNat), 0) else ([], 1)
theorem byte_nat (v : Nat) : ((v : Int) % 256) = ofB (BitVec.ofNat 8 v) := by
  unfold ofB
  rw [BitVec.toNat_ofNat]
  omega
/-- A row of the code's matrix on its way. -/
def caR (k m i j : Nat) : List B := (List.range k).map fun b => if b < j then cau k m (k + i) b else 0#8
theorem caR_set (k m i j : Nat) (hj : j < k) : (caR k m i j).set j (inv (BitVec.ofNat 8 i ^^^ BitVec.ofNat 8 (m + j))) = caR k m i (j + 1) := by
  refine ext0 (by simp [caR]) fun b hb => ?_
  rw [List.length_set] at hb
  have hb' : b < k := by simpa [caR] using hb
  have e : ∀ j', at0 (caR k m i j') b = if b < j' then cau k m (k + i) b else 0#8 := fun j' => at0_map _ _ _ hb'
  rw [at0_set _ _ _ _ (by simpa [caR] using hj), e, e]
  by_cases e1 : j = b
  · subst e1
    rw [if_pos rfl, if_pos (by omega)]
    unfold cau
    rw [if_neg (by omega), show k + i - k = i by omega]
  · rw [if_neg e1]
    by_cases e2 : b < j
    · rw [if_pos e2, if_pos (by omega)]
    · rw [if_neg e2, if_neg (by omega)]
theorem caR_all (k m i : Nat) : caR k m i k = (List.range k).map (cau k m (k + i)) := List.map_congr_left fun b hb => if_pos (List.mem_range.1 hb)
theorem cau_next (k m i : Nat) : matF (k + i) k (cau k m) ++ [(List.range k).map (cau k m (k + i))] = matF (k + (i + 1)) k (cau k m) := by
  unfold matF; rw [show k + (i + 1) = (k + i) + 1 by omega, List.range_succ, List.map_append]; rfl
theorem cauchy_l1 (k m : Nat) (hk : k + m ≤ 255) (r : List (List Int) × Int) (i : Nat) (hi : i < m) (hnext : Ev (fun f => matrix_Cauchy.l0 f (k : Int) (m : Int) (oM (matF (k + (i + 1)) k (cau k m))) (m : Int) ((i + 1 : Nat) : Int)) r) (d : Nat) : ∀ j : Nat, j + d = k →
    Ev (fun f => matrix_Cauchy.l1 f (k : Int) (m : Int) (oM (matF (k + i) k (cau k m))) (i : Int) (ofL (caR k m i j)) (m : Int) (i : Int) (k : Int) (j : Int)) r := by
  induction d with
  | zero =>
    intro j hj
    obtain rfl : j = k := by omega
    refine Ev.step (f := fun f => matrix_Cauchy.l0 f (j : Int) (m : Int) (oM (matF (j + (i + 1)) j (cau j m))) (m : Int) ((i + 1 : Nat) : Int)) (fun f => ?_) hnext
    simp only [matrix_Cauchy.l1, oM_length, (matF_reg (j + i) j (cau j m)).1]
    rw [if_neg (by omega), if_pos (by omega), oM_one, oM_append, caR_all, cau_next, w64 _ (by omega) (by omega)]
    rfl
  | succ d ih =>
    intro j hj
    refine Ev.step (f := fun f => matrix_Cauchy.l1 f (k : Int) (m : Int) (oM (matF (k + i) k (cau k m))) (i : Int) (ofL (caR k m i (j + 1))) (m : Int) (i : Int) (k : Int) ((j + 1 : Nat) : Int)) (fun f => ?_) (ih (j + 1) (by omega))
    have hl : (caR k m i j).length = k := by simp [caR]
    simp only [matrix_Cauchy.l1, ofL_length, hl, Int.toNat_natCast]
    rw [if_pos (by omega), w64 ((m : Int) + (j : Int)) (by omega) (by omega), show ((m : Int) + (j : Int)) = ((m + j : Nat) : Int) by omega, byte_nat, byte_nat, xor_ofB, gfInv_eq, Option.bind_some, if_pos (by omega), if_pos (by omega), w64 _ (by omega) (by omega)]
    simp only []
    rw [ofL_set, caR_set k m i j (by omega)]
    rfl
theorem cauchy_l0 (k m : Nat) (hk : k + m ≤ 255) (d : Nat) : ∀ i : Nat, i + d = m → Ev (fun f => matrix_Cauchy.l0 f (k : Int) (m : Int) (oM (matF (k + i) k (cau k m))) (m : Int) (i : Int)) (oM (cauM k m), 0) := by
  induction d with
  | zero =>
    intro i hi
    obtain rfl : i = m := by omega
    refine Ev.step (f := fun _ => some (oM (cauM k i), 0)) (fun f => ?_) (Ev.now _)
    simp only [matrix_Cauchy.l0]
    rw [if_neg (by omega)]
    rfl
  | succ d ih =>
    intro i hi
    refine Ev.step (f := fun f => matrix_Cauchy.l1 f (k : Int) (m : Int) (oM (matF (k + i) k (cau k m))) (i : Int) (ofL (caR k m i 0)) (m : Int) (i : Int) (k : Int) ((0 : Nat) : Int)) (fun f => ?_) (cauchy_l1 k m hk _ i (by omega) (ih (i + 1) (by omega)) k 0 (by omega))
    simp only [matrix_Cauchy.l0, Int.toNat_natCast]
    have e : List.replicate k (0 : Int) = ofL (caR k m i 0) := by
      rw [ofL_replicate]
      congr 1
      refine List.ext_getElem (by simp [caR]) fun b h1 h2 => ?_
      simp [caR]
    rw [if_pos (by omega), if_pos (by omega), if_pos (by omega), e]
    rfl
theorem cau_id (k m : Nat) : idM k = matF (k + 0) k (cau k m) := by
  rw [idM_eq]
  refine mat_ext (matF_reg k k I) (matF_reg k k _) fun i j hi hj => ?_
  rw [el_matF _ hi hj, show matF (k + 0) k (cau k m) = matF k k (cau k m) from rfl, el_matF (cau k m) hi hj]
  unfold cau
  rw [if_pos hi]
theorem evCauchy (a b : Int) (ha : -9223372036854775808 ≤ a) : Ev (fun f => matrix_Cauchy.f f a b) (cauR a b) := by
  unfold matrix_Cauchy.f cauR
  have j1 : Ev (fun f => matrix_Cauchy.j0 f a b true) ([], 1) := Ev.step (f := fun _ => some ([], 1)) (fun f => by simp only [matrix_Cauchy.j0, if_true]) (Ev.now _)
  by_cases h1 : a < 1
  · simp only [show (a < 1) = True from eq_true h1, if_true]
    rw [if_neg (by omega)]
    exact j1
  simp only [show (a < 1) = False from eq_false h1, if_false]
  by_cases h2 : b < 1
  · simp only [show (b < 1) = True from eq_true h2, if_true]
    rw [if_neg (by omega)]
    exact j1
  simp only [show (b < 1) = False from eq_false h2, if_false]
  by_cases h3 : a > 255
  · simp only [show (a > 255) = True from eq_true h3, if_true]
    rw [if_neg (by omega)]
    exact j1
  simp only [show (a > 255) = False from eq_false h3, if_false]
  rw [w64 _ (by omega) (by omega)]
  by_cases h4 : b > 255 - a
  · simp only [show decide (b > 255 - a) = true from decide_eq_true h4]
    rw [if_neg (by omega)]
    exact j1
  simp only [show decide (b > 255 - a) = false from decide_eq_false h4]
  rw [if_pos (by omega)]
  obtain ⟨k, rfl⟩ := Int.eq_ofNat_of_zero_le (show 0 ≤ a by omega)
  obtain ⟨m, rfl⟩ := Int.eq_ofNat_of_zero_le (show 0 ≤ b by omega)
  rw [Int.toNat_natCast, Int.toNat_natCast]
  refine Ev.step (f := fun f => (matrix_Identity.f f (k : Int)).bind fun bt101 => matrix_Cauchy.l0 f (k : Int) (m : Int) bt101.1 (m : Int) 0) (fun f => by simp only [matrix_Cauchy.j0, Bool.false_eq_true, if_false]) ?_
  refine Ev.bind (evIdentity (k : Int)) ?_
  unfold idR
  rw [if_pos (by omega), Int.toNat_natCast]
  simp only []
  rw [cau_id k m]
  exact cauchy_l0 k m (by omega) m 0 (by omega)
theorem xor_byte (i n : Nat) : BitVec.ofNat 8 (i ^^^ n) = BitVec.ofNat 8 i ^^^ BitVec.ofNat 8 n := by
  apply BitVec.eq_of_toNat_eq
  rw [BitVec.toNat_xor, BitVec.toNat_ofNat, BitVec.toNat_ofNat, BitVec.toNat_ofNat]
  exact Nat.xor_mod_two_pow
theorem refCauchy_l1 (k m : Nat) (hk : k + m ≤ 255) (r : List (List Int) × Int) (i : Nat) (hi : i < m) (hnext : Ev (fun f => mooringref02_Cauchy.l0 f (k : Int) (m : Int) (oM (matF (k + (i + 1)) k (cau k m))) ((i + 1 : Nat) : Int)) r) (d : Nat) : ∀ j : Nat, j + d = k →
    Ev (fun f => mooringref02_Cauchy.l1 f (k : Int) (m : Int) (oM (matF (k + i) k (cau k m))) (i : Int) (ofL ((List.range j).map (cau k m (k + i)))) (j : Int)) r := by
  induction d with
  | zero =>
    intro j hj
    obtain rfl : j = k := by omega
    refine Ev.step (f := fun f => mooringref02_Cauchy.l0 f (j : Int) (m : Int) (oM (matF (j + (i + 1)) j (cau j m))) ((i + 1 : Nat) : Int)) (fun f => ?_) hnext
    simp only [mooringref02_Cauchy.l1, oM_length, (matF_reg (j + i) j (cau j m)).1]
    rw [if_neg (by omega), if_pos (by omega), oM_one, oM_append, cau_next, w64 _ (by omega) (by omega)]
    rfl
  | succ d ih =>
    intro j hj
    refine Ev.step (f := fun f => (mooringref01_Inv.f f (ofB (BitVec.ofNat 8 i ^^^ BitVec.ofNat 8 (m + j)))).bind fun bt107 => mooringref02_Cauchy.l1 f (k : Int) (m : Int) (oM (matF (k + i) k (cau k m))) (i : Int) (ofL ((List.range j).map (cau k m (k + i))) ++ [bt107.1]) ((j + 1 : Nat) : Int)) (fun f => ?_) ?_
    · have hl : ((List.range j).map (cau k m (k + i))).length = j := by simp
      simp only [mooringref02_Cauchy.l1, ofL_length, hl]
      rw [if_pos (by omega), w64 ((m : Int) + (j : Int)) (by omega) (by omega), show ((m : Int) + (j : Int)) = ((m + j : Nat) : Int) by omega, xor_i64_nat _ _ (by omega) (by omega), byte_nat, xor_byte]
      simp only [show (j < 140737488355328) = True from eq_true (by omega), if_true, w64 ((j : Int) + 1) (by omega) (by omega)]
      rfl
    · refine Ev.bind (refInv _) ?_
      have e : ofL ((List.range j).map (cau k m (k + i))) ++ [ofB (inv (BitVec.ofNat 8 i ^^^ BitVec.ofNat 8 (m + j)))] = ofL ((List.range (j + 1)).map (cau k m (k + i))) := by
        rw [List.range_succ, List.map_append]
        unfold ofL
        rw [List.map_append]
        simp only [List.map_cons, List.map_nil]
        unfold cau
        rw [if_neg (by omega), show k + i - k = i by omega]
      simp only []
      rw [e]
      exact ih (j + 1) (by omega)
theorem refCauchy_l0 (k m : Nat) (hk : k + m ≤ 255) (d : Nat) : ∀ i : Nat, i + d = m → Ev (fun f => mooringref02_Cauchy.l0 f (k : Int) (m : Int) (oM (matF (k + i) k (cau k m))) (i : Int)) (oM (cauM k m), 0) := by
  induction d with
  | zero =>
    intro i hi
    obtain rfl : i = m := by omega
    refine Ev.step (f := fun _ => some (oM (cauM k i), 0)) (fun f => ?_) (Ev.now _)
    simp only [mooringref02_Cauchy.l0]
    rw [if_neg (by omega)]
    rfl
  | succ d ih =>
    intro i hi
    refine Ev.step (f := fun f => mooringref02_Cauchy.l1 f (k : Int) (m : Int) (oM (matF (k + i) k (cau k m))) (i : Int) (ofL ((List.range 0).map (cau k m (k + i)))) ((0 : Nat) : Int)) (fun f => ?_) (refCauchy_l1 k m hk _ i (by omega) (ih (i + 1) (by omega)) k 0 (by omega))
    simp only [mooringref02_Cauchy.l0]
    rw [if_pos (by omega)]
    rfl
theorem evRefCauchy (a b : Int) (ha : -9223372036854775808 ≤ a) : Ev (fun f => mooringref02_Cauchy.f f a b) (cauR a b) := by
  unfold mooringref02_Cauchy.f cauR
  have j1 : Ev (fun f => mooringref02_Cauchy.j0 f a b true) ([], 1) := Ev.step (f := fun _ => some ([], 1)) (fun f => by simp only [mooringref02_Cauchy.j0, if_true]) (Ev.now _)
  by_cases h1 : a < 1
  · simp only [show (a < 1) = True from eq_true h1, if_true]
    rw [if_neg (by omega)]
    exact j1
  simp only [show (a < 1) = False from eq_false h1, if_false]
  by_cases h2 : b < 1
  · simp only [show (b < 1) = True from eq_true h2, if_true]
    rw [if_neg (by omega)]
    exact j1
  simp only [show (b < 1) = False from eq_false h2, if_false]
  by_cases h3 : a > 254
  · simp only [show (a > 254) = True from eq_true h3, if_true]
    rw [if_neg (by omega)]
    exact j1
  simp only [show (a > 254) = False from eq_false h3, if_false]
  rw [w64 _ (by omega) (by omega)]
  by_cases h4 : b > 255 - a
  · simp only [show decide (b > 255 - a) = true from decide_eq_true h4]
    rw [if_neg (by omega)]
    exact j1
  simp only [show decide (b > 255 - a) = false from decide_eq_false h4]
  rw [if_pos (by omega)]
  obtain ⟨k, rfl⟩ := Int.eq_ofNat_of_zero_le (show 0 ≤ a by omega)
  obtain ⟨m, rfl⟩ := Int.eq_ofNat_of_zero_le (show 0 ≤ b by omega)
  rw [Int.toNat_natCast, Int.toNat_natCast]
  refine Ev.step (f := fun f => (mooringref02_Identity.f f (k : Int)).bind fun t101 => mooringref02_Cauchy.l0 f (k : Int) (m : Int) t101 0) (fun f => by simp only [mooringref02_Cauchy.j0, Bool.false_eq_true, if_false]) ?_
  refine Ev.bind (evRefIdentity k (by omega)) ?_
  rw [cau_id k m]
  exact refCauchy_l0 k m (by omega) m 0 (by omega)
theorem cauM_reg (k m : Nat) : Reg (cauM k m) (k + m) k := matF_reg _ _ _
end Go.Proofs.Ytbogmlckbkogiaa.Red
namespace Go.Proofs.Ytbogmlckbkogiaa.Red
open Go.RowKit Go.Proofs.YtbogmlckbkogiaaW.PrintWords Go.Proofs.Ytbogmlckbkogiaa.Leaf Go.Proofs.Ytbogmlckbkogiaa.Gf Go.Proofs.Ytbogmlckbkogiaa.H Go.Proofs.Ytbogmlckbkogiaa.Mx Go.Proofs.Ytbogmlckbkogiaa.P
set_option linter.unusedVariables false
set_option linter.unusedSimpArgs false
/-- A product on its way, row by row. -/
def stC (n m p : Nat) (A C : Mat) (i : Nat) (r : List B) : Mat := (List.range n).map fun a => if a < i then (List.range p).map (mm m (el A) (el C) a) else if a = i then r else []
def rwC (m p : Nat) (A C : Mat) (i k : Nat) : List B := (List.range p).map fun b => sm k (fun l => mul (el A i l) (el C l b))
theorem stC_length (n m p : Nat) (A C : Mat) (i : Nat) (r : List B) : (stC n m p A C i r).length = n := by simp [stC]
theorem row_stC (n m p : Nat) (A C : Mat) (i : Nat) (r : List B) (hi : i < n) : row (stC n m p A C i r) i = r := by
  unfold stC
  rw [row_map _ _ _ hi, if_neg (by omega), if_pos rfl]
theorem stC_set (n m p : Nat) (A C : Mat) (i : Nat) (r s : List B) (hi : i < n) : (stC n m p A C i r).set i s = stC n m p A C i s := by
  refine List.ext_getElem (by simp [stC]) fun a h1 h2 => ?_
  simp only [stC, List.getElem_set, List.getElem_map, List.getElem_range]
  by_cases e : i = a
  · subst e; simp
  · by_cases e2 : a < i
    · simp [e, e2]
    · simp [e, e2, Ne.symm e]
theorem stC_next (n m p : Nat) (A C : Mat) (i : Nat) : stC n m p A C i (rwC m p A C i m) = stC n m p A C (i + 1) [] := by
  refine List.ext_getElem (by simp [stC]) fun a h1 h2 => ?_
  simp only [stC, List.getElem_map, List.getElem_range]
  by_cases e : a < i
  · rw [if_pos e, if_pos (by omega)]
  · rw [if_neg e]
    by_cases e2 : a = i
    · rw [if_pos e2, if_pos (by omega), e2]; rfl
    · rw [if_neg e2, if_neg (by omega)]
      by_cases e3 : a = i + 1
      · rw [if_pos e3]
      · rw [if_neg e3]
theorem stC_all (n m p : Nat) (A C : Mat) : stC n m p A C n [] = matF n p (mm m (el A) (el C)) := by
  unfold stC matF
  exact List.map_congr_left fun a ha => if_pos (List.mem_range.1 ha)
theorem rwC_step (m p : Nat) (A C : Mat) (hC : Reg C m p) (i k : Nat) (hk : k < m) : am (rwC m p A C i k) (row C k) (el A i k) (rwC m p A C i k).length = rwC m p A C i (k + 1) := by
  refine ext0 (by rw [am_length]; simp [rwC]) fun b hb => ?_
  rw [am_length] at hb
  have hb' : b < p := by simpa [rwC] using hb
  rw [am_at _ _ _ _ hb]
  unfold rwC
  rw [at0_map _ _ _ hb', at0_map _ _ _ hb']
  simp only [sm]
  rw [mul_comm (el A i k)]
  rfl
theorem comb_l1 {n m p : Nat} {A C : Mat} (hA : Reg A n m) (hC : Reg C m p) (hn : n ≤ 255) (hm : m ≤ 255) (hp : p ≤ 140737488355327) (r : List (List Int)) (i : Nat) (hi : i < n)
    (hnext : Ev (fun k => code_combine.l0 k (oM C) (oM (stC n m p A C (i + 1) [])) (oM A) (n : Int) ((i + 1 : Nat) : Int)) r) (d : Nat) : ∀ k : Nat, k + d = m →
    Ev (fun f => code_combine.l1 f (oM C) (oM (stC n m p A C i (rwC m p A C i k))) (i : Int) (oM A) (n : Int) (i : Int) (ofL (row A i)) (m : Int) (k : Int)) r := by
  induction d with
  | zero =>
    intro k hk
    obtain rfl : k = m := by omega
    refine Ev.step (f := fun f => code_combine.l0 f (oM C) (oM (stC n k p A C (i + 1) [])) (oM A) (n : Int) ((i + 1 : Nat) : Int)) (fun f => ?_) hnext
    simp only [code_combine.l1]
    rw [if_neg (by omega), stC_next, w64 _ (by omega) (by omega)]
    rfl
  | succ d ih =>
    intro k hk
    have hl : (rwC m p A C i k).length = p := by simp [rwC]
    refine Ev.step (f := fun f => (gf_AddMul.f f (ofL (rwC m p A C i k)) (ofL (row C k)) (ofB (el A i k))).bind fun bt112 => code_combine.l1 f (oM C) ((oM (stC n m p A C i (rwC m p A C i k))).set i bt112.1) (i : Int) (oM A) (n : Int) (i : Int) (ofL (row A i)) (m : Int) ((k + 1 : Nat) : Int)) (fun f => ?_) ?_
    · simp only [code_combine.l1, ofL_length, oM_length, rd_oM, rd_ofL, hA.2 i hi, stC_length, hC.1, Int.toNat_natCast, row_stC _ _ _ _ _ _ _ hi]
      rw [if_pos (by omega), if_pos (by omega), if_pos (by omega), if_pos (by omega), if_pos (by omega), if_pos (by omega), w64 _ (by omega) (by omega)]
      rfl
    · refine Ev.bind (gfAddMul _ _ _ (by rw [hl]; omega)) ?_
      unfold addMulB
      rw [if_pos (by rw [hl, hC.2 k (by omega)])]
      simp only []
      rw [oM_set, stC_set _ _ _ _ _ _ _ _ hi, rwC_step m p A C hC i k (by omega)]
      exact ih (k + 1) (by omega)
theorem comb_l0 {n m p : Nat} {A C : Mat} (hA : Reg A n m) (hC : Reg C m p) (hn : n ≤ 255) (hm0 : 0 < m) (hm : m ≤ 255) (hp : p ≤ 140737488355327) (d : Nat) : ∀ i : Nat, i + d = n →
    Ev (fun k => code_combine.l0 k (oM C) (oM (stC n m p A C i [])) (oM A) (n : Int) (i : Int)) (oM (matF n p (mm m (el A) (el C)))) := by
  induction d with
  | zero =>
    intro i hi
    obtain rfl : i = n := by omega
    refine Ev.step (f := fun _ => some (oM (matF i p (mm m (el A) (el C))))) (fun k => ?_) (Ev.now _)
    simp only [code_combine.l0]
    rw [if_neg (by omega), stC_all]
  | succ d ih =>
    intro i hi
    refine Ev.step (f := fun f => code_combine.l1 f (oM C) (oM (stC n m p A C i (rwC m p A C i 0))) (i : Int) (oM A) (n : Int) (i : Int) (ofL (row A i)) (m : Int) ((0 : Nat) : Int)) (fun f => ?_) (comb_l1 hA hC hn hm hp _ i (by omega) (ih (i + 1) (by omega)) m 0 (by omega))
    simp only [code_combine.l0, oM_length, rd_oM, rd_oM0, ofL_length, hA.1, hA.2 i (by omega), hC.1, hC.2 0 hm0, stC_length, Int.toNat_natCast]
    have e : List.replicate p (0 : Int) = ofL (rwC m p A C i 0) := by
      rw [ofL_replicate]
      congr 1
      refine List.ext_getElem (by simp [rwC]) fun b h1 h2 => ?_
      simp [rwC, sm]
    rw [if_pos (by omega), if_pos (by omega), if_pos (by omega), if_pos (by omega), if_pos (by omega), if_pos (by omega), if_pos (by omega), e, oM_set, stC_set _ _ _ _ _ _ _ _ (by omega)]
    rfl
theorem evCombine {n m p : Nat} {A C : Mat} (hA : Reg A n m) (hC : Reg C m p) (hn : n ≤ 255) (hm0 : 0 < m) (hm : m ≤ 255) (hp : p ≤ 140737488355327) : Ev (fun k => code_combine.f k (oM A) (oM C)) (oM (mulM A C)) := by
  unfold code_combine.f
  simp only [oM_length, hA.1, Int.toNat_natCast, show ((0 : Int) ≤ (n : Int)) = True from eq_true (by omega), if_true, show (n ≤ 11728124029610) = True from eq_true (by omega)]
  have e : List.replicate n ([] : List Int) = oM (stC n m p A C 0 []) := by
    unfold oM
    refine List.ext_getElem (by simp [stC]) fun a h1 h2 => ?_
    simp [stC]
    rfl
  rw [e]
  have e2 : mulM A C = matF n p (mm m (el A) (el C)) := by unfold mulM; rw [hA.1, hC.1, hC.2 0 hm0]
  rw [e2]
  exact comb_l0 hA hC hn hm0 hm hp n 0 (by omega)
def evenB (D : Mat) (n : Int) : Bool := ((D.length : Int) == n) && (List.range D.length).all fun i => (row D i).length == (row D 0).length
theorem evenB_iff (D : Mat) (k : Nat) : evenB D (k : Int) = true ↔ Reg D k (row D 0).length := by
  unfold evenB Reg
  simp only [Bool.and_eq_true, beq_iff_eq, List.all_eq_true, List.mem_range]
  constructor
  · rintro ⟨h1, h2⟩
    have e : D.length = k := by omega
    exact ⟨e, fun i hi => h2 i (by omega)⟩
  · rintro ⟨h1, h2⟩
    exact ⟨by omega, fun i hi => h2 i (by omega)⟩
theorem code_even_eq (D : Mat) (n : Int) (hn : 0 < n) : code_even.f (oM D) n = some (evenB D n) := by
  unfold code_even.f evenB
  rw [oM_length, decide_eq_true hn, Bool.and_true]
  congr 1
  congr 1
  rw [List.not_any_eq_all_not]
  refine List.all_congr rfl ?_
  intro i
  unfold unevenAt
  have e : ∀ j, (oM D).getD j [] = ofL (row D j) := fun j => map_getD D j
  rw [e, e, ofL_length, ofL_length, Bool.eq_iff_iff]
  simp only [Bool.not_eq_true', bne_eq_false_iff_eq, beq_iff_eq]
  omega
theorem even_ok (D : Mat) (hs : D.length ≤ 9223372036854775807) (h : ∀ j, j < D.length → (row D j).length = (row D 0).length) (n : Nat) : ∀ i : Nat, i + n = D.length → Ev (fun k => mooringref03_even.l0 k (oM D) (i : Int)) true := by
  induction n with
  | zero =>
    intro i hi
    refine Ev.step (f := fun _ => some true) (fun k => ?_) (Ev.now _)
    simp only [mooringref03_even.l0, oM_length]
    rw [if_neg (by omega)]
  | succ n ih =>
    intro i hi
    have hi' := h i (by omega)
    refine Ev.step (f := fun k => mooringref03_even.l0 k (oM D) ((i + 1 : Nat) : Int)) (fun k => ?_) (ih (i + 1) (by omega))
    simp only [mooringref03_even.l0, oM_length, rd_oM, rd_oM0, ofL_length]
    rw [if_pos (by omega), if_pos (by omega), if_pos (by omega), if_pos (by omega), w64 _ (by omega) (by omega)]
    rfl
theorem even_bad (D : Mat) (hs : D.length ≤ 9223372036854775807) (j : Nat) (hj : j < D.length) (hne : (row D j).length ≠ (row D 0).length) (n : Nat) : ∀ i : Nat, i + n = j → Ev (fun k => mooringref03_even.l0 k (oM D) (i : Int)) false := by
  induction n with
  | zero =>
    intro i hi
    obtain rfl : i = j := by omega
    refine Ev.step (f := fun _ => some false) (fun k => ?_) (Ev.now _)
    simp only [mooringref03_even.l0, oM_length, rd_oM, rd_oM0, ofL_length]
    rw [if_pos (by omega), if_pos (by omega), if_pos (by omega), if_neg (by omega)]
  | succ n ih =>
    intro i hi
    by_cases he : (row D i).length = (row D 0).length
    · refine Ev.step (f := fun k => mooringref03_even.l0 k (oM D) ((i + 1 : Nat) : Int)) (fun k => ?_) (ih (i + 1) (by omega))
      simp only [mooringref03_even.l0, oM_length, rd_oM, rd_oM0, ofL_length]
      rw [if_pos (by omega), if_pos (by omega), if_pos (by omega), if_pos (by omega), w64 _ (by omega) (by omega)]
      rfl
    · refine Ev.step (f := fun _ => some false) (fun k => ?_) (Ev.now _)
      simp only [mooringref03_even.l0, oM_length, rd_oM, rd_oM0, ofL_length]
      rw [if_pos (by omega), if_pos (by omega), if_pos (by omega), if_neg (by omega)]
theorem evRefEven (D : Mat) (hs : D.length ≤ 9223372036854775807) (n : Int) : Ev (fun k => mooringref03_even.f k (oM D) n) (evenB D n) := by
  unfold mooringref03_even.f evenB
  simp only [oM_length]
  by_cases h1 : (D.length : Int) = n
  · simp only [h1, if_true, beq_self_eq_true, Bool.true_and]
    by_cases h2 : ∀ j, j < D.length → (row D j).length = (row D 0).length
    · rw [show ((List.range D.length).all fun i => (row D i).length == (row D 0).length) = true by simpa [List.all_eq_true] using h2]
      exact even_ok D hs h2 D.length 0 (by omega)
    · obtain ⟨j, hj, hne⟩ := uneven h2
      rw [show ((List.range D.length).all fun i => (row D i).length == (row D 0).length) = false by
        rw [List.all_eq_false]
        exact ⟨j, List.mem_range.2 hj, by simpa using hne⟩]
      exact even_bad D hs j hj hne j 0 (by omega)
  · simp only [h1, if_false]
    rw [beq_eq_false_iff_ne.2 h1, Bool.false_and]
    exact Ev.now _
def codeB (a b : Int) : Bool := decide (1 ≤ a) && decide (1 ≤ b) && decide (b ≤ 255 - a)
theorem code_eq (a b : Int) (ha : -9223372036854775808 ≤ a) : mooringref03_Code.f a b = some (codeB a b) := by
  unfold mooringref03_Code.f codeB
  by_cases h1 : a ≥ 1
  · rw [if_pos h1, decide_eq_true (show 1 ≤ a from h1)]
    by_cases h2 : b ≥ 1
    · rw [if_pos h2, decide_eq_true (show 1 ≤ b from h2)]
      by_cases h3 : a ≤ 254
      · rw [if_pos h3, w64 _ (by omega) (by omega)]; simp
      · rw [if_neg h3, decide_eq_false (by omega)]; rfl
    · rw [if_neg h2, decide_eq_false (show ¬ 1 ≤ b by omega)]; rw [Bool.and_false, Bool.false_and]
  · rw [if_neg h1, decide_eq_false (show ¬ 1 ≤ a by omega), Bool.false_and, Bool.false_and]
theorem codeB_form (a b : Int) : (codeB a b = true ∧ ∃ k m : Nat, a = (k : Int) ∧ b = (m : Int) ∧ 1 ≤ k ∧ 1 ≤ m ∧ k + m ≤ 255 ∧ cauR a b = (oM (cauM k m), 0)) ∨ (codeB a b = false ∧ cauR a b = (oM [], 1)) := by
  unfold codeB cauR
  by_cases h : 1 ≤ a ∧ 1 ≤ b ∧ b ≤ 255 - a
  · rw [if_pos h]
    exact .inl ⟨by simp [h], a.toNat, b.toNat, by omega, by omega, by omega, by omega, by omega, rfl⟩
  · rw [if_neg h]
    refine .inr ⟨?_, rfl⟩
    rw [← Bool.not_eq_true]
    simpa [and_assoc] using h
def encR (a b : Int) (D : Mat) : List (List Int) × Int := if codeB a b = true ∧ evenB D a = true then (oM (mulM (cauM a.toNat b.toNat) D), 0) else ([], 1)
theorem evEncode (a b : Int) (ha : -9223372036854775808 ≤ a) (D : Mat) (hr : ∀ i, i < D.length → (row D i).length ≤ 140737488355327) : Ev (fun k => code_Encode.f k a b (oM D)) (encR a b D) := by
  unfold code_Encode.f encR
  refine Ev.bind (evCauchy a b ha) ?_
  rcases codeB_form a b with ⟨h1, k, m, rfl, rfl, hk, hm, h, e⟩ | ⟨h1, e⟩
  · rw [e]
    simp only [if_true, h1, true_and, code_even_eq D (k : Int) (by omega), Option.bind_some]
    by_cases h2 : evenB D (k : Int) = true
    · simp only [h2, if_true, Int.toNat_natCast]
      have hD := (evenB_iff D k).1 h2
      refine Ev.bind (evCombine (cauM_reg k m) hD h (by omega) (by omega) (by have := hr 0 (by rw [hD.1]; omega); omega)) ?_
      exact Ev.now _
    · simp only [h2, if_false]
      exact Ev.now _
  · rw [e]
    simp only [h1, show ((1 : Int) = 0) = False from eq_false (by decide), if_false, Bool.false_eq_true, false_and]
    exact Ev.now _
theorem enc_l2 {n k p : Nat} {A D : Mat} (hA : Reg A n k) (hD : Reg D k p) (hk : k ≤ 255) (hp : p ≤ 140737488355327) (a0 a1 : Int) (ha : a0 = (k : Int)) (r : List (List Int) × Int) (X : List (List Int)) (i : Nat) (hi : i < n) (R : List B) (at_ : Nat) (hat : at_ < p) (hR : R.length = p)
    (hnext : Ev (fun f => mooringref03_Encode.l1 f a0 a1 (oM D) (oM A) X (i : Int) (ofL (R.set at_ (mm k (el A) (el D) i at_))) ((at_ + 1 : Nat) : Int)) r) (d : Nat) : ∀ j : Nat, j + d = k →
    Ev (fun f => mooringref03_Encode.l2 f a0 a1 (oM D) (oM A) X (i : Int) (ofL (R.set at_ (sm j (fun l => mul (el A i l) (el D l at_))))) (at_ : Int) (j : Int)) r := by
  induction d with
  | zero =>
    intro j hj
    obtain rfl : j = k := by omega
    refine Ev.step (f := fun f => mooringref03_Encode.l1 f a0 a1 (oM D) (oM A) X (i : Int) (ofL (R.set at_ (mm j (el A) (el D) i at_))) ((at_ + 1 : Nat) : Int)) (fun f => ?_) hnext
    simp only [mooringref03_Encode.l2, ha]
    rw [if_neg (by omega), w64 _ (by omega) (by omega)]
    rfl
  | succ d ih =>
    intro j hj
    refine Ev.step (f := fun f => (mooringref01_Mul.f f (ofB (el A i j)) (ofB (el D j at_))).bind fun t122 => mooringref03_Encode.l2 f a0 a1 (oM D) (oM A) X (i : Int) ((ofL (R.set at_ (sm j (fun l => mul (el A i l) (el D l at_))))).set at_ (Go.bits .xor .u8 (ofB (sm j (fun l => mul (el A i l) (el D l at_)))) t122)) (at_ : Int) ((j + 1 : Nat) : Int)) (fun f => ?_) ?_
    · have e : at0 (R.set at_ (sm j (fun l => mul (el A i l) (el D l at_)))) at_ = sm j (fun l => mul (el A i l) (el D l at_)) := by rw [at0_set _ _ _ _ (by omega), if_pos rfl]
      simp only [mooringref03_Encode.l2, oM_length, hA.1, hD.1, rd_oM, rd_ofL, ofL_length, List.length_set, hA.2 i hi, hD.2 j (by omega), hR, Int.toNat_natCast, e, ha]
      rw [if_pos (by omega), if_pos (by omega), if_pos (by omega), if_pos (by omega), if_pos (by omega), if_pos (by omega), if_pos (by omega), if_pos (by omega), if_pos (by omega), w64 _ (by omega) (by omega)]
      rfl
    · refine Ev.bind (refMul _ _) ?_
      rw [xor_ofB, ofL_set, List.set_set]
      exact ih (j + 1) (by omega)
def rwE (k p : Nat) (A D : Mat) (i at_ : Nat) : List B := (List.range p).map fun b => if b < at_ then mm k (el A) (el D) i b else 0#8
theorem rwE_set (k p : Nat) (A D : Mat) (i at_ : Nat) (h : at_ < p) : (rwE k p A D i at_).set at_ (mm k (el A) (el D) i at_) = rwE k p A D i (at_ + 1) := by
  refine ext0 (by simp [rwE]) fun b hb => ?_
  rw [List.length_set] at hb
  have hb' : b < p := by simpa [rwE] using hb
  have e : ∀ c, at0 (rwE k p A D i c) b = if b < c then mm k (el A) (el D) i b else 0#8 := fun c => at0_map _ _ _ hb'
  rw [at0_set _ _ _ _ (by simpa [rwE] using h), e, e]
  by_cases e1 : at_ = b
  · subst e1
    rw [if_pos rfl, if_pos (by omega)]
  · rw [if_neg e1]
    by_cases e2 : b < at_
    · rw [if_pos e2, if_pos (by omega)]
    · rw [if_neg e2, if_neg (by omega)]
theorem rwE_zero (k p : Nat) (A D : Mat) (i at_ : Nat) (h : at_ < p) : (rwE k p A D i at_).set at_ 0#8 = rwE k p A D i at_ := by
  refine ext0 (by simp [rwE]) fun b hb => ?_
  rw [List.length_set] at hb
  have hb' : b < p := by simpa [rwE] using hb
  have e : ∀ c, at0 (rwE k p A D i c) b = if b < c then mm k (el A) (el D) i b else 0#8 := fun c => at0_map _ _ _ hb'
  rw [at0_set _ _ _ _ (by simpa [rwE] using h), e]
  by_cases e1 : at_ = b
  · rw [if_pos e1, if_neg (by omega)]
  · rw [if_neg e1]
theorem enc_l1 {n k p : Nat} {A D : Mat} (hA : Reg A n k) (hD : Reg D k p) (hn : n ≤ 255) (hk : k ≤ 255) (hp : p ≤ 140737488355327) (a0 a1 : Int) (ha : a0 = (k : Int)) (r : List (List Int) × Int) (i : Nat) (hi : i < n)
    (hnext : Ev (fun f => mooringref03_Encode.l0 f a0 a1 (oM D) (oM A) (oM (matF (i + 1) p (mm k (el A) (el D)))) ((i + 1 : Nat) : Int)) r) (d : Nat) : ∀ at_ : Nat, at_ + d = p →
    Ev (fun f => mooringref03_Encode.l1 f a0 a1 (oM D) (oM A) (oM (matF i p (mm k (el A) (el D)))) (i : Int) (ofL (rwE k p A D i at_)) (at_ : Int)) r := by
  induction d with
  | zero =>
    intro at_ hat
    obtain rfl : at_ = p := by omega
    refine Ev.step (f := fun f => mooringref03_Encode.l0 f a0 a1 (oM D) (oM A) (oM (matF (i + 1) at_ (mm k (el A) (el D)))) ((i + 1 : Nat) : Int)) (fun f => ?_) hnext
    have hl : (rwE k at_ A D i at_).length = at_ := by simp [rwE]
    have e : rwE k at_ A D i at_ = (List.range at_).map (mm k (el A) (el D) i) := List.map_congr_left fun b hb => if_pos (List.mem_range.1 hb)
    have e2 : matF i at_ (mm k (el A) (el D)) ++ [(List.range at_).map (mm k (el A) (el D) i)] = matF (i + 1) at_ (mm k (el A) (el D)) := by unfold matF; rw [List.range_succ, List.map_append]; rfl
    simp only [mooringref03_Encode.l1, ofL_length, hl, oM_length, (matF_reg i at_ (mm k (el A) (el D))).1]
    rw [if_neg (by omega), if_pos (by omega), oM_one, oM_append, e, e2, w64 _ (by omega) (by omega)]
    rfl
  | succ d ih =>
    intro at_ hat
    have hl : (rwE k p A D i at_).length = p := by simp [rwE]
    refine Ev.step (f := fun f => mooringref03_Encode.l2 f a0 a1 (oM D) (oM A) (oM (matF i p (mm k (el A) (el D)))) (i : Int) (ofL ((rwE k p A D i at_).set at_ (sm 0 (fun l => mul (el A i l) (el D l at_))))) (at_ : Int) ((0 : Nat) : Int)) (fun f => ?_) (enc_l2 hA hD hk hp a0 a1 ha r _ i hi _ at_ (by omega) hl ?_ k 0 (by omega))
    · simp only [mooringref03_Encode.l1, ofL_length, hl, sm, rwE_zero k p A D i at_ (by omega)]
      rw [if_pos (by omega)]
      rfl
    · rw [rwE_set k p A D i at_ (by omega)]
      exact ih (at_ + 1) (by omega)
theorem enc_l0 {n k p : Nat} {A D : Mat} (hA : Reg A n k) (hD : Reg D k p) (hn : n ≤ 255) (hk0 : 0 < k) (hk : k ≤ 255) (hp : p ≤ 140737488355327) (a0 a1 : Int) (ha : a0 = (k : Int)) (hw : wrap64 (a0 + a1) = (n : Int)) (d : Nat) : ∀ i : Nat, i + d = n →
    Ev (fun f => mooringref03_Encode.l0 f a0 a1 (oM D) (oM A) (oM (matF i p (mm k (el A) (el D)))) (i : Int)) (oM (matF n p (mm k (el A) (el D))), 0) := by
  induction d with
  | zero =>
    intro i hi
    obtain rfl : i = n := by omega
    refine Ev.step (f := fun _ => some (oM (matF i p (mm k (el A) (el D))), 0)) (fun f => ?_) (Ev.now _)
    simp only [mooringref03_Encode.l0, hw]
    rw [if_neg (by omega)]
  | succ d ih =>
    intro i hi
    refine Ev.step (f := fun f => mooringref03_Encode.l1 f a0 a1 (oM D) (oM A) (oM (matF i p (mm k (el A) (el D)))) (i : Int) (ofL (rwE k p A D i 0)) ((0 : Nat) : Int)) (fun f => ?_) (enc_l1 hA hD hn hk hp a0 a1 ha _ i (by omega) (ih (i + 1) (by omega)) p 0 (by omega))
    have e : List.replicate p (0 : Int) = ofL (rwE k p A D i 0) := by
      rw [ofL_replicate]
      congr 1
      refine List.ext_getElem (by simp [rwE]) fun b h1 h2 => ?_
      simp [rwE]
    simp only [mooringref03_Encode.l0, hw, oM_length, hD.1, rd_oM0, ofL_length, hD.2 0 hk0, Int.toNat_natCast]
    rw [if_pos (by omega), if_pos (by omega), if_pos (by omega), if_pos (by omega), e]
    rfl
theorem evRefEncode (a b : Int) (ha : -9223372036854775808 ≤ a) (D : Mat) (hs : D.length ≤ 9223372036854775807) (hr : ∀ i, i < D.length → (row D i).length ≤ 140737488355327) : Ev (fun k => mooringref03_Encode.f k a b (oM D)) (encR a b D) := by
  have j1 : Ev (fun f => mooringref03_Encode.j0 f a b (oM D) true) ([], 1) := Ev.step (f := fun _ => some ([], 1)) (fun f => by simp only [mooringref03_Encode.j0, if_true]) (Ev.now _)
  unfold mooringref03_Encode.f encR
  simp only [code_eq a b ha, Option.bind_some]
  rcases codeB_form a b with ⟨h1, k, m, rfl, rfl, hk, hm, h, e⟩ | ⟨h1, e⟩
  · simp only [h1, if_true, true_and]
    refine Ev.bind (evRefEven D hs (k : Int)) ?_
    by_cases h2 : evenB D (k : Int) = true
    · simp only [h2, if_true, Bool.not_true, Int.toNat_natCast]
      have hD := (evenB_iff D k).1 h2
      refine Ev.step (f := fun f => (mooringref02_Cauchy.f f (k : Int) (m : Int)).bind fun bt103 => mooringref03_Encode.l0 f (k : Int) (m : Int) (oM D) bt103.1 [] 0) (fun f => by simp only [mooringref03_Encode.j0, Bool.false_eq_true, if_false]) ?_
      refine Ev.bind (evRefCauchy (k : Int) (m : Int) (by omega)) ?_
      rw [e]
      simp only []
      have e2 : mulM (cauM k m) D = matF (k + m) (row D 0).length (mm k (el (cauM k m)) (el D)) := by unfold mulM; rw [(cauM_reg k m).1, hD.1]
      rw [e2]
      exact enc_l0 (cauM_reg k m) hD h (by omega) (by omega) (by have := hr 0 (by rw [hD.1]; omega); omega) (k : Int) (m : Int) rfl (by rw [w64 _ (by omega) (by omega)]; omega) (k + m) 0 (by omega)
    · simp only [h2, Bool.false_eq_true, if_false, Bool.not_false]
      exact j1
  · simp only [h1, Bool.false_eq_true, if_false, false_and]
    exact j1
end Go.Proofs.Ytbogmlckbkogiaa.Red
namespace Go.Proofs.Ytbogmlckbkogiaa.Red
open Go.RowKit Go.Proofs.YtbogmlckbkogiaaW.PrintWords Go.Proofs.Ytbogmlckbkogiaa.Leaf Go.Proofs.Ytbogmlckbkogiaa.Gf Go.Proofs.Ytbogmlckbkogiaa.H Go.Proofs.Ytbogmlckbkogiaa.Mx Go.Proofs.Ytbogmlckbkogiaa.P
set_option linter.unusedVariables false
set_option linter.unusedSimpArgs false
/-- What Inverse tells of a square matrix whose rows do not cancel out. -/
theorem invR_yes {A : Mat} {n : Nat} (hA : Reg A n n) (hn : 0 < n) (hn2 : n ≤ 255) (h : (redF n 0 0 A (idM n)).1 = n) : ∃ X, invR A = (oM X, 0) ∧ Reg X n n ∧ mulM A X = idM n ∧ mulM X A = idM n := by
  obtain ⟨r1, r2, r3⟩ := inverse_yes hn hA h
  refine ⟨(redF n 0 0 A (idM n)).2.2, ?_, r1, ?_, ?_⟩
  · unfold invR
    rw [if_pos ⟨mayB_of hA hn hn2 hn hn2, by rw [hA.1, hA.2 0 hn]⟩, hA.1, if_neg (by omega)]
  · refine mat_ext (mulM_reg hA r1 hn) (matF_reg n n I) fun i j hi hj => ?_
    rw [el_mulM hA r1 hn hi hj, r3 i j hi hj, idM_eq, el_matF I hi hj]
  · refine mat_ext (mulM_reg r1 hA hn) (matF_reg n n I) fun i j hi hj => ?_
    rw [el_mulM r1 hA hn hi hj, r2 i j hi hj, idM_eq, el_matF I hi hj]
def ints (L : List Nat) : List Int := L.map fun (v : Nat) => (v : Int)
theorem ints_length (L : List Nat) : (ints L).length = L.length := List.length_map _
theorem row_rowsM (A : Mat) (L : List Nat) (i : Nat) (hi : i < L.length) : row (rowsM A (ints L)) i = row A (L.getD i 0) := by
  unfold rowsM ints
  rw [List.map_map]
  show (L.map _).getD i [] = _
  rw [List.getD_eq_getElem?_getD, List.getElem?_map, List.getD_eq_getElem?_getD, List.getElem?_eq_getElem hi]
  rfl
theorem rowsM_reg {A : Mat} {n m : Nat} (hA : Reg A n m) (L : List Nat) (h : ∀ v ∈ L, v < n) : Reg (rowsM A (ints L)) L.length m := by
  refine ⟨by unfold rowsM ints; rw [List.length_map, List.length_map], fun i hi => ?_⟩
  rw [row_rowsM A L i hi]
  exact hA.2 _ (h _ (getD_mem hi))
theorem cauM_may {k m : Nat} (hk : 1 ≤ k) (h : k + m ≤ 255) : mayB (cauM k m) = true := mayB_of (cauM_reg k m) (by omega) h hk (by omega)
theorem pick_inverse {k m : Nat} (hk : 1 ≤ k) (h : k + m ≤ 255) (L : List Nat) (hl : L.length = k) (hnd : L.Nodup) (hb : ∀ v ∈ L, v < k + m) :
    Reg (rowsM (cauM k m) (ints L)) k k ∧ ∃ X, invR (rowsM (cauM k m) (ints L)) = (oM X, 0) ∧ Reg X k k ∧ mulM (rowsM (cauM k m) (ints L)) X = idM k ∧ mulM X (rowsM (cauM k m) (ints L)) = idM k := by
  have hS : Reg (rowsM (cauM k m) (ints L)) k k := by
    have := rowsM_reg (cauM_reg k m) L hb
    rwa [hl] at this
  have hel : ∀ i j, i < k → j < k → el (rowsM (cauM k m) (ints L)) i j = cau k m (L.getD i 0) j := by
    intro i j hi hj
    unfold el
    rw [row_rowsM _ _ _ (by omega)]
    exact el_matF _ (hb _ (getD_mem (by omega))) hj
  refine ⟨hS, invR_yes hS (by omega) (by omega) ?_⟩
  have hle := redF_le (by omega) hS (matF_reg k k I)
  rw [← idM_eq] at hle
  by_cases hlt : (redF k 0 0 (rowsM (cauM k m) (ints L)) (idM k)).1 < k
  · obtain ⟨y, hy, i, hi, hne⟩ := inverse_no (by omega) hS (matF_reg k k I) hlt
    exfalso
    refine hne (cauchy_regular h L hl hnd hb y (fun j hj => ?_) i hi)
    rw [← hy j hj]
    exact sm_congr fun i' hi' => by rw [hel i' j hi' hj]
  · omega
end Go.Proofs.Ytbogmlckbkogiaa.Red
namespace Go.Proofs.Ytbogmlckbkogiaa.Red
open Go.RowKit Go.Proofs.YtbogmlckbkogiaaW.PrintWords Go.Proofs.Ytbogmlckbkogiaa.Leaf Go.Proofs.Ytbogmlckbkogiaa.Gf Go.Proofs.Ytbogmlckbkogiaa.H Go.Proofs.Ytbogmlckbkogiaa.Mx Go.Proofs.Ytbogmlckbkogiaa.P
set_option linter.unusedVariables false
set_option linter.unusedSimpArgs false
/-- The shards one has. -/
def selM (A : Mat) (H : List Bool) : Mat := (selN H H.length).map fun i => row A i
theorem selL_oM (A : Mat) (H : List Bool) : selL (oM A) H H.length = oM (selM A H) := by
  unfold selL selM oM
  rw [List.map_map]
  refine List.map_congr_left fun i _ => ?_
  exact rd_oM A i
theorem selR_ints (H : List Bool) (k : Nat) : (selR H H.length).take k = ints ((selN H H.length).take k) := by
  unfold selR ints
  rw [List.map_take]
theorem selN_nodup (H : List Bool) (s : Nat) : (selN H s).Nodup := List.Nodup.sublist List.filter_sublist List.nodup_range
theorem selN_lt {H : List Bool} {s v : Nat} (h : v ∈ selN H s) : v < s := List.mem_range.1 (List.mem_filter.1 h).1
theorem selM_length (A : Mat) (H : List Bool) : (selM A H).length = (selN H H.length).length := List.length_map _
/-- The rows of the code's matrix that belong to the first k shards one has. -/
def picM (k m : Nat) (H : List Bool) : Mat := rowsM (cauM k m) (ints ((selN H H.length).take k))
def decM (k m : Nat) (A : Mat) (H : List Bool) : Mat := mulM (cauM k m) (mulM (unM (invR (picM k m H)).1) ((selM A H).take k))
theorem pic_inverse {k m : Nat} (hk : 1 ≤ k) (h : k + m ≤ 255) {H : List Bool} (hH : H.length = k + m) (hn : k ≤ (selN H H.length).length) :
    rowsR (cauM k m) (ints ((selN H H.length).take k)) = (oM (picM k m H), 0) ∧ Reg (picM k m H) k k ∧ ∃ X, invR (picM k m H) = (oM X, 0) ∧ Reg X k k ∧ mulM (picM k m H) X = idM k ∧ mulM X (picM k m H) = idM k := by
  have hl : ((selN H H.length).take k).length = k := by rw [List.length_take]; omega
  have hb : ∀ v ∈ (selN H H.length).take k, v < k + m := fun v hv => by
    have := selN_lt (List.mem_of_mem_take hv)
    omega
  have hp := pick_inverse hk h ((selN H H.length).take k) hl (List.Nodup.sublist (List.take_sublist _ _) (selN_nodup H H.length)) hb
  refine ⟨?_, hp.1, hp.2⟩
  unfold rowsR
  rw [if_pos]
  · rfl
  · unfold rowsB
    rw [cauM_may hk h, ints_length, hl, decide_eq_true (by omega), decide_eq_true (by omega)]
    rw [Bool.true_and, Bool.true_and, Bool.true_and, List.all_eq_true]
    intro x hx
    obtain ⟨v, hv, rfl⟩ := List.mem_map.1 hx
    have := hb v hv
    rw [(cauM_reg k m).1, decide_eq_true (by omega), decide_eq_true (by omega)]
    rfl
theorem even_reg {D : Mat} (h : code_even.f (oM D) (D.length : Int) = some true) (h0 : 0 < D.length) : Reg D D.length (row D 0).length := by
  rw [code_even_eq D _ (by omega)] at h
  exact (evenB_iff D D.length).1 (Option.some.inj h)
theorem reg_take {D : Mat} {n p k : Nat} (h : Reg D n p) (hk : k ≤ n) : Reg (D.take k) k p := by
  refine ⟨by rw [List.length_take, h.1]; omega, fun i hi => ?_⟩
  have := h.2 i (by omega)
  have e : row (D.take k) i = row D i := by
    unfold row
    rw [List.getD_eq_getElem?_getD, List.getElem?_take_of_lt hi, List.getD_eq_getElem?_getD]
  rw [e]
  exact this
def evD (A : Mat) (H : List Bool) : Bool := ((code_even.f (oM (selM A H)) ((selM A H).length : Int)).getD false)
theorem row_len {A : Mat} {H : List Bool} (hr : ∀ i, i < A.length → (row A i).length ≤ 140737488355327) (i : Nat) (hi : i < (selM A H).length) : (row (selM A H) i).length ≤ 140737488355327 := by
  unfold selM at hi ⊢
  rw [List.length_map] at hi
  have e : row ((selN H H.length).map fun i => row A i) i = row A ((selN H H.length)[i]) := by
    show (((selN H H.length).map fun i => row A i).getD i []) = _
    rw [List.getD_eq_getElem?_getD, List.getElem?_map, List.getElem?_eq_getElem hi]
    rfl
  rw [e]
  by_cases h : (selN H H.length)[i] < A.length
  · exact hr _ h
  · have : row A ((selN H H.length)[i]) = [] := by
      unfold row
      rw [List.getD_eq_getElem?_getD, List.getElem?_eq_none (by omega)]
      rfl
    rw [this]
    exact Nat.zero_le _
theorem dec_facts (k m : Int) (hk : -9223372036854775808 ≤ k) (A : Mat) (hr : ∀ i, i < A.length → (row A i).length ≤ 140737488355327) (H : List Bool) :
    DecFacts k m (oM A) H (cauR k m).1 (cauR k m).2 (evD A H) (oM (picM k.toNat m.toNat H)) (invR (picM k.toNat m.toNat H)).1 (oM (mulM (unM (invR (picM k.toNat m.toNat H)).1) ((selM A H).take k.toNat))) (oM (decM k.toNat m.toNat A H)) 0 (invR (picM k.toNat m.toNat H)).2 := by
  have hrng : (cauR k m).2 = 0 → 1 ≤ k ∧ 1 ≤ m ∧ k + m ≤ 255 := fun h => by
    unfold cauR at h
    by_cases h1 : 1 ≤ k ∧ 1 ≤ m ∧ m ≤ 255 - k
    · omega
    · rw [if_neg h1] at h
      exact absurd h (by decide)
  have heven : code_even.f (selL (oM A) H H.length) ((selL (oM A) H H.length).length : Int) = some (evD A H) := by
    rw [selL_oM, oM_length]
    unfold evD code_even.f
    rfl
  have hcau : (cauR k m).2 = 0 → (cauR k m).1 = oM (cauM k.toNat m.toNat) := fun h => by
    have := hrng h
    unfold cauR
    rw [if_pos (by omega)]
  have hlen : (selL (oM A) H H.length).length = (selN H H.length).length := by unfold selL; rw [List.length_map]
  refine ⟨evCauchy k m hk, hrng, heven, fun h0 he hS hH hl => ?_, matrix_Inverse.f_oM _, fun h0 he hS hH hl => ?_, fun h0 he hS hH hl => ?_⟩
  · have hg := hrng h0
    obtain ⟨kn, rfl⟩ := Int.eq_ofNat_of_zero_le (show 0 ≤ k by omega)
    obtain ⟨mn, rfl⟩ := Int.eq_ofNat_of_zero_le (show 0 ≤ m by omega)
    rw [hcau h0, selR_ints]
    simp only [Int.toNat_natCast]
    have hp := pic_inverse (k := kn) (m := mn) (by omega) (by omega) (H := H) (by omega) (by omega)
    have h := evRows (cauM kn mn) (by rw [(cauM_reg kn mn).1]; omega) (ints ((selN H H.length).take kn))
    rw [hp.1] at h
    exact h
  · have hg := hrng h0
    obtain ⟨kn, rfl⟩ := Int.eq_ofNat_of_zero_le (show 0 ≤ k by omega)
    obtain ⟨mn, rfl⟩ := Int.eq_ofNat_of_zero_le (show 0 ≤ m by omega)
    obtain ⟨_, _, X, hX, hR, _⟩ := pic_inverse (k := kn) (m := mn) (by omega) (by omega) (H := H) (by omega) (by omega)
    simp only [Int.toNat_natCast]
    have hlen2 : kn ≤ (selM A H).length := by rw [selM_length]; omega
    rw [he, selL_oM, oM_length] at heven
    have hD := even_reg heven (by omega)
    rw [hX, unM_oM, selL_oM]
    have e : (oM (selM A H)).take kn = oM ((selM A H).take kn) := by unfold oM; rw [List.map_take]
    rw [e]
    exact evCombine hR (reg_take hD hlen2) (by omega) (by omega) (by omega) (row_len hr 0 (by omega))
  · have hg := hrng h0
    rw [hcau h0]
    obtain ⟨kn, rfl⟩ := Int.eq_ofNat_of_zero_le (show 0 ≤ k by omega)
    obtain ⟨mn, rfl⟩ := Int.eq_ofNat_of_zero_le (show 0 ≤ m by omega)
    obtain ⟨_, _, X, hX, hR, _⟩ := pic_inverse (k := kn) (m := mn) (by omega) (by omega) (H := H) (by omega) (by omega)
    unfold decM
    simp only [Int.toNat_natCast]
    have hlen2 : kn ≤ (selM A H).length := by rw [selM_length]; omega
    rw [he, selL_oM, oM_length] at heven
    have hD := even_reg heven (by omega)
    rw [hX, unM_oM]
    exact evCombine (cauM_reg kn mn) (mulM_reg hR (reg_take hD hlen2) (by omega)) (by omega) (by omega) (by omega) (row_len hr 0 (by omega))
/-- What Decode answers. -/
def decR (k m : Int) (A : Mat) (H : List Bool) : List (List Int) × Int :=
  if codeB k m = true ∧ (A.length : Int) = k + m ∧ (H.length : Int) = k + m then
    (if 0 < (selM A H).length ∧ evD A H = false then ([], 1) else if ((selM A H).length : Int) < k then ([], 4) else (oM (decM k.toNat m.toNat A H), 0))
  else ([], 1)
theorem decO_eq (k m : Int) (A : Mat) (H : List Bool) : decO k m (oM A) H (cauR k m).2 (evD A H) (oM (decM k.toNat m.toNat A H)) = decR k m A H := by
  unfold decO decR
  rw [selL_oM, oM_length, oM_length]
  rcases codeB_form k m with ⟨h1, k', m', rfl, rfl, _, _, _, e⟩ | ⟨h1, e⟩
  · rw [e, h1]
    simp only [true_and]
  · rw [e, h1]
    rw [if_neg (fun h => absurd h.1 (by decide)), if_neg (fun h => absurd h.1 (by decide))]
end Go.Proofs.Ytbogmlckbkogiaa.Red
namespace Go.Proofs.Ytbogmlckbkogiaa.H
open Go.RowKit Go.Proofs.YtbogmlckbkogiaaW.PrintWords Go.Proofs.Ytbogmlckbkogiaa.Leaf Go.Proofs.Ytbogmlckbkogiaa.Gf Go.Proofs.Ytbogmlckbkogiaa.Red Go.Proofs.Ytbogmlckbkogiaa.Mx Go.Proofs.Ytbogmlckbkogiaa.P
def code_Decode.f (a0 a1 : Int) (l2 : List (List Int)) (l3 : List Bool) : Option (List (List Int) × Int) :=
  if l2.all byteRow = true ∧ -9223372036854775808 ≤ a0 ∧ (l2.all fun r => decide (r.length ≤ 140737488355327)) = true then some (decR a0 a1 (unM l2) l3) else none
theorem code_Decode.calls (a0 : Int) (a1 : Int) (A2 : Option Addr) (c2 : Nat) (l2 : List (List Int)) (A3 : Option Addr) (c3 : Nat) (l3 : List Bool) (r1 : List (List Int)) (r2 : Int) (w : World) (hr2 : Kd.C (Kd.slice 5 (Kd.int .u8)) w A2 l2.length l2) (hc2 : l2.length ≤ c2) (hr3 : Kd.C Kd.bool w A3 l3.length l3) (hc3 : l3.length ≤ c3) (h : code_Decode.f a0 a1 l2 l3 = some (r1, r2)) :
    Calls Try.prog 77 #[.int .i64 a0, .int .i64 a1, .slice A2 l2.length c2, .slice A3 l3.length c3] w fun e w' => ∃ v0_ : Value, e = .returned (.tuple #[v0_, .int .i64 r2]) ∧ Kd.N (Kd.slice 5 (Kd.int .u8)) 22 w' w.heap.size (fun k_ => (w.heap.size ≤ k_)) v0_ r1 ∧ Below w.heap.size w w' := by
  unfold code_Decode.f at h
  by_cases hby : l2.all byteRow = true ∧ -9223372036854775808 ≤ a0 ∧ (l2.all fun r => decide (r.length ≤ 140737488355327)) = true
  · rw [if_pos hby] at h
    obtain ⟨hb, ha, hl⟩ := hby
    obtain ⟨A, rfl⟩ : ∃ A : Mat, l2 = oM A := ⟨unM l2, (oM_unM l2 hb).symm⟩
    rw [unM_oM] at h
    have hr : ∀ i, i < A.length → (row A i).length ≤ 140737488355327 := fun i hi => by
      have hm : ofL (A[i]) ∈ oM A := List.mem_map.2 ⟨_, List.getElem_mem hi, rfl⟩
      have h2 := of_decide_eq_true (List.all_eq_true.1 hl _ hm)
      rw [ofL_length] at h2
      have e : row A i = A[i] := by unfold row; rw [List.getD_eq_getElem?_getD, List.getElem?_eq_getElem hi]; rfl
      rw [e]
      exact h2
    have hc := Decode.calls a0 a1 A2 c2 (oM A) A3 c3 l3 _ _ _ _ _ _ _ _ _ w hr2 hc2 hr3 hc3 (dec_facts a0 a1 ha A hr l3)
    rw [decO_eq, Option.some.inj h] at hc
    exact hc
  · rw [if_neg hby] at h
    cases h
end Go.Proofs.Ytbogmlckbkogiaa.H
