import Derived.Test.YtbogmlckbkogiaaGfb
import Derived.Test.YtbogmlckbkogiaaPMooringref01Exp
import Derived.Test.YtbogmlckbkogiaaPMooringref01Log
namespace Go.Proofs.Ytbogmlckbkogiaa.Gf
open Go.RowKit Go.Proofs.YtbogmlckbkogiaaW.PrintWords Go.Proofs.Ytbogmlckbkogiaa.Leaf Go.Proofs.Ytbogmlckbkogiaa.P
/-! ### Powers -/
def pw (a : B) : Nat → B
  | 0 => 1#8
  | n + 1 => mul (pw a n) a
theorem pw_ex (i n : Nat) : pw (ex i) n = ex (i * n) := by
  induction n with
  | zero => rfl
  | succ n ih => simp only [pw]; rw [ih, mul_ex, Nat.mul_succ]
theorem ex_congr (x y : Nat) (h : x % 255 = y % 255) : ex x = ex y := by rw [← ex_mod x, h, ex_mod]
theorem refPow_l0 (a : B) (x1 : Int) (m : Nat) (hm : Int.tmod x1 255 = m) (n : Nat) : ∀ i : Nat, i + n = m → Ev (fun k => mooringref01_Pow.l0 k (ofB a) x1 (ofB (pw a i)) (i : Int)) (ofB (pw a m), true) := by
  have hm2 : m < 255 := by have := Int.tmod_lt_of_pos x1 (b := 255) (by decide); omega
  induction n with
  | zero =>
    intro i hi
    refine Ev.step (f := fun _ => some (ofB (pw a i), true)) (fun k => ?_) ?_
    · simp only [mooringref01_Pow.l0]
      rw [hm, if_neg (by omega)]
    · rw [show i = m by omega]
      exact Ev.now _
  | succ n ih =>
    intro i hi
    refine Ev.step (f := fun k => (mooringref01_Mul.f k (ofB (pw a i)) (ofB a)).bind fun t => mooringref01_Pow.l0 k (ofB a) x1 t ((i + 1 : Nat) : Int)) (fun k => ?_) ?_
    · simp only [mooringref01_Pow.l0]
      rw [hm, if_pos (by omega), w64 _ (by omega) (by omega)]
      rfl
    · exact Ev.bind (refMul (pw a i) a) (ih (i + 1) (by omega))
/-- A power as the document defines it. -/
def pwZ (a : B) (n : Int) : B := if a = 0#8 then (if n = 0 then 1#8 else 0#8) else ex (lg a * (n % 255).toNat)
def pwOk (a : B) (n : Int) : Bool := decide (a ≠ 0#8) || decide (0 ≤ n)
theorem refPow_nonneg (a : B) (n : Int) (h0 : 0 ≤ n) (ha : a ≠ 0#8) : Ev (fun k => mooringref01_Pow.f k (ofB a) n) (ofB (ex (lg a * (n % 255).toNat)), true) := by
  have hm : Int.tmod n 255 = ((n % 255).toNat : Int) := by rw [Int.tmod_eq_emod_of_nonneg h0]; omega
  refine Ev.step (f := fun k => mooringref01_Pow.l0 k (ofB a) n (ofB (pw a 0)) ((0 : Nat) : Int)) (fun k => ?_) ?_
  · simp only [mooringref01_Pow.f]
    rw [if_neg (by rw [ofB_eq_zero]; exact ha), if_neg (by omega)]
    rfl
  · have h := refPow_l0 a n _ hm (n % 255).toNat 0 (by omega)
    rw [← pw_ex, (ex_lg a ha).1]
    exact h
theorem refPow (a : B) (n : Int) (hn : -9223372036854775808 ≤ n ∧ n ≤ 9223372036854775807) : Ev (fun k => mooringref01_Pow.f k (ofB a) n) (ofB (pwZ a n), pwOk a n) := by
  unfold pwZ pwOk
  by_cases ha : a = 0#8
  · subst ha
    rw [if_pos rfl]
    refine Ev.step (f := fun _ => if n = 0 then some (1, true) else some (0, decide (n > 0))) (fun k => ?_) ?_
    · simp only [mooringref01_Pow.f]
      rw [if_pos ofB_zero]
    · by_cases h0 : n = 0
      · subst h0
        exact Ev.now _
      · simp only [if_neg h0]
        have : (decide ((0#8 : B) ≠ 0#8) || decide (0 ≤ n)) = decide (n > 0) := by
          rw [show decide ((0#8 : B) ≠ 0#8) = false from rfl, Bool.false_or]
          exact decide_eq_decide.2 (by omega)
        rw [this]
        exact Ev.now _
  · rw [if_neg ha, decide_eq_true ha, Bool.true_or]
    by_cases h0 : 0 ≤ n
    · exact refPow_nonneg a n h0 ha
    · have hm : wrap64 (-(wrap64 (n + 1))) = -(n + 1) := by rw [w64 (n + 1) (by omega) (by omega), w64 _ (by omega) (by omega)]
      refine Ev.step (f := fun k => (mooringref01_Inv.f k (ofB a)).bind fun b => (mooringref01_Pow.f k b.1 (-(n + 1))).bind fun p => (mooringref01_Mul.f k p.1 b.1).bind fun t => some (t, true)) (fun k => ?_) ?_
      · simp only [mooringref01_Pow.f]
        rw [if_neg (by rw [ofB_eq_zero]; exact ha), if_pos (by omega), hm]
      · refine Ev.bind (refInv a) ?_
        have hi := inv_ne a ha
        refine Ev.bind (refPow_nonneg (inv a) (-(n + 1)) (by omega) hi) ?_
        refine Ev.bind (refMul _ _) ?_
        have he : mul (ex (lg (inv a) * (-(n + 1) % 255).toNat)) (inv a) = ex (lg a * (n % 255).toNat) := by
          have hL := ex_lg a ha
          have hI := ex_lg (inv a) hi
          have hs : ex (lg a + lg (inv a)) = 1#8 := by rw [← mul_ex, hL.1, hI.1, mul_inv a ha]
          have hs2 : (lg a + lg (inv a)) % 255 = 0 := by
            have h1 : ex ((lg a + lg (inv a)) % 255) = ex 0 := by rw [ex_mod, hs]; rfl
            exact ex_inj _ _ (Nat.mod_lt _ (by decide)) (by decide) h1
          conv => lhs; arg 2; rw [← hI.1]
          rw [mul_ex]
          apply ex_congr
          obtain ⟨q, hq⟩ : ∃ q, lg a + lg (inv a) = 255 * q := ⟨(lg a + lg (inv a)) / 255, by omega⟩
          obtain ⟨s, hs3, hs4⟩ : ∃ s, s = (-(n + 1) % 255).toNat ∧ s < 255 := ⟨_, rfl, by omega⟩
          obtain ⟨t, ht, ht2⟩ : ∃ t, t = (n % 255).toNat ∧ t + s + 1 = 255 := ⟨_, rfl, by omega⟩
          rw [← hs3, ← ht]
          have hz : lg (inv a) * s + lg (inv a) + lg a * (s + 1) = 255 * (q * (s + 1)) := by
            rw [show lg (inv a) * s + lg (inv a) + lg a * (s + 1) = (lg a + lg (inv a)) * (s + 1) by rw [Nat.add_mul, Nat.mul_succ (lg (inv a))]; omega, hq, Nat.mul_assoc]
          have hy : lg a * t + lg a * (s + 1) = 255 * lg a := by
            rw [← Nat.mul_add, show t + (s + 1) = 255 by omega, Nat.mul_comm]
          generalize lg a * (s + 1) = p at hz hy
          generalize lg a * t = u at hy ⊢
          generalize lg (inv a) * s = v at hz ⊢
          generalize q * (s + 1) = z at hz
          omega
        rw [he]
        exact Ev.now _
theorem gfPow_eq (a : B) (n : Int) : gf_Pow.f (ofB a) n = some (ofB (pwZ a n), pwOk a n) := by
  unfold gf_Pow.f pwZ pwOk
  by_cases h0 : n = 0
  · subst h0
    rw [if_pos rfl]
    by_cases ha : a = 0#8
    · subst ha; rfl
    · rw [if_neg ha, decide_eq_true ha]
      rfl
  rw [if_neg h0]
  by_cases ha : a = 0#8
  · subst ha
    rw [if_pos ofB_zero, if_pos rfl, if_neg h0]
    have : (decide ((0#8 : B) ≠ 0#8) || decide (0 ≤ n)) = decide (n > 0) := by
      rw [show decide ((0#8 : B) ≠ 0#8) = false from rfl, Bool.false_or]
      exact decide_eq_decide.2 (by omega)
    rw [this]
    rfl
  have ra := ofB_range a
  rw [if_neg (by rw [ofB_eq_zero]; exact ha), if_pos ra.1, if_pos ra.2, (rdL a ha).1, gm_eq, gm_eq, if_neg ha, decide_eq_true ha, Bool.true_or]
  obtain ⟨t, ht⟩ : ∃ t : Nat, (n % 255) = (t : Int) := ⟨(n % 255).toNat, by omega⟩
  rw [ht, rdE _ (by omega) (by omega)]
  have : (((lg a : Int) * (t : Int)) % 255).toNat = (lg a * t) % 255 := by
    rw [← Int.natCast_mul]; omega
  rw [this, ex_mod]
  rfl
theorem refExp (n : Int) (hn : -9223372036854775808 ≤ n ∧ n ≤ 9223372036854775807) : Ev (fun k => mooringref01_Exp.f k n) (ofB (exZ n)) := by
  have h := refPow 2#8 n hn
  have e : pwZ 2#8 n = exZ n := by
    unfold pwZ exZ
    rw [if_neg (by decide), show lg 2#8 = 1 by decide +kernel, Nat.one_mul]
  rw [e] at h
  exact Ev.bind h (Ev.now _)
theorem refLog_l0 (a : B) (n : Nat) : ∀ i : Nat, i + n = 255 → (∀ j, j < i → ex j ≠ a) → Ev (fun k => mooringref01_Log.l0 k (ofB a) (ofB (ex i)) (i : Int)) ((if a = 0#8 then 0 else (lg a : Int)), decide (a ≠ 0#8)) := by
  induction n with
  | zero =>
    intro i hi hn
    have ha : a = 0#8 := by
      apply Classical.byContradiction
      intro ha
      have := ex_lg a ha
      exact hn (lg a) (by omega) this.1
    refine Ev.step (f := fun _ => some (0, false)) (fun k => ?_) ?_
    · simp only [mooringref01_Log.l0]
      rw [if_neg (by omega)]
    · subst ha
      exact Ev.now _
  | succ n ih =>
    intro i hi hn
    by_cases h1 : ex i = a
    · refine Ev.step (f := fun _ => some ((i : Int), true)) (fun k => ?_) ?_
      · simp only [mooringref01_Log.l0]
        rw [if_pos (by omega), if_pos (by rw [h1])]
      · have ha : a ≠ 0#8 := by rw [← h1]; exact ex_ne i
        rw [if_neg ha, decide_eq_true ha, ← h1, lg_ex_lt i (by omega)]
        exact Ev.now _
    · refine Ev.step (f := fun k => (mooringref01_Mul.f k (ofB (ex i)) (ofB 2#8)).bind fun t => mooringref01_Log.l0 k (ofB a) t ((i + 1 : Nat) : Int)) (fun k => ?_) ?_
      · simp only [mooringref01_Log.l0]
        rw [if_pos (by omega), if_neg (by rw [ofB_eq_iff]; exact h1), w64 _ (by omega) (by omega)]
        rfl
      · refine Ev.bind (refMul (ex i) 2#8) ?_
        rw [show (2#8 : B) = ex 1 by decide, mul_ex]
        refine ih (i + 1) (by omega) (fun j hj => ?_)
        by_cases e : j = i
        · rw [e]; exact h1
        · exact hn j (by omega)
theorem refLog (a : B) : Ev (fun k => mooringref01_Log.f k (ofB a)) ((if a = 0#8 then 0 else (lg a : Int)), decide (a ≠ 0#8)) :=
  Ev.congr (f := fun k => mooringref01_Log.l0 k (ofB a) (ofB (ex 0)) ((0 : Nat) : Int)) (fun _ => rfl) (refLog_l0 a 255 0 rfl (fun _ hj => absurd hj (Nat.not_lt_zero _)))
theorem gfLog_all (a : B) : gf_Log.f (ofB a) = some ((if a = 0#8 then 0 else (lg a : Int)), decide (a ≠ 0#8)) := by
  by_cases ha : a = 0#8
  · subst ha
    exact gfLog_zero
  · rw [if_neg ha, decide_eq_true ha]
    exact gfLog_eq a ha
end Go.Proofs.Ytbogmlckbkogiaa.Gf
