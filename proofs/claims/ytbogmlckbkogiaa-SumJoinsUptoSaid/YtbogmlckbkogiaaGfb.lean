import Derived.Test.YtbogmlckbkogiaaGfa
import Derived.Test.YtbogmlckbkogiaaPMooringref01Div
import Derived.Test.YtbogmlckbkogiaaPGfDiv
namespace Go.Proofs.Ytbogmlckbkogiaa.Gf
open Go.RowKit Go.Proofs.YtbogmlckbkogiaaW.PrintWords Go.Proofs.Ytbogmlckbkogiaa.Leaf Go.Proofs.Ytbogmlckbkogiaa.P
theorem w64 (n : Int) (h0 : -9223372036854775808 ≤ n) (h1 : n ≤ 9223372036854775807) : wrap64 n = n := by unfold wrap64; omega
theorem xt_int : ∀ x : B, (if 2 * x.toNat ≥ 256 then (2 * x.toNat) ^^^ 285 else 2 * x.toNat) = (xt x).toNat := forall_B (by decide +kernel)
theorem refMul_l0 (n : Nat) : ∀ (i : Nat) (x out : B) (y : Nat), i + n = 8 → y < 256 → Ev (fun k => mooringref01_Mul.l0 k (ofB x) (y : Int) (ofB out) (i : Int)) (ofB (out ^^^ M n x y)) := by
  induction n with
  | zero =>
    intro i x out y hi hy
    refine Ev.step (f := fun _ => some (ofB out % 256)) (fun k => ?_) ?_
    · simp only [mooringref01_Mul.l0]
      rw [if_neg (by omega)]
    · have := ofB_range out
      rw [Int.emod_eq_of_lt this.1 this.2]
      simp only [M, BitVec.xor_zero]
      exact Ev.now _
  | succ n ih =>
    intro i x out y hi hy
    have hx := ofB_range x
    have hx2 : wrap64 (ofB x * 2) = ((2 * x.toNat : Nat) : Int) := by
      have : ofB x * 2 = ((2 * x.toNat : Nat) : Int) := by unfold ofB; omega
      rw [this, w64 _ (by omega) (by have := x.isLt; omega)]
    have ht : Int.tmod (y : Int) 2 = ((y % 2 : Nat) : Int) := by rw [Int.tmod_eq_emod_of_nonneg (by omega)]; omega
    have hd : wrap64 (Int.tdiv (y : Int) 2) = ((y / 2 : Nat) : Int) := by
      rw [Int.tdiv_eq_ediv_of_nonneg (by omega), w64 _ (by omega) (by omega)]; omega
    have hi1 : wrap64 ((i : Int) + 1) = ((i + 1 : Nat) : Int) := by rw [w64 _ (by omega) (by omega)]; omega
    have hxt := xt_int x
    have hX : (if ((2 * x.toNat : Nat) : Int) ≥ 256 then Go.bits .xor .i64 ((2 * x.toNat : Nat) : Int) 285 else ((2 * x.toNat : Nat) : Int)) = ofB (xt x) := by
      unfold ofB
      rw [← hxt]
      by_cases hc : 2 * x.toNat ≥ 256
      · rw [if_pos hc, if_pos (by omega)]
        exact xor_i64_nat _ 285 (by have := x.isLt; omega) (by decide)
      · rw [if_neg hc, if_neg (by omega)]
    have ho : Go.bits .xor .i64 (ofB out) (ofB x) = ofB (out ^^^ x) := xor_i64_ofB _ _
    have hlt : (i : Int) < 8 := by omega
    by_cases hy1 : y % 2 = 1
    · refine Ev.step (f := fun k => mooringref01_Mul.l0 k (ofB (xt x)) ((y / 2 : Nat) : Int) (ofB (out ^^^ x)) ((i + 1 : Nat) : Int)) (fun k => ?_) ?_
      · simp only [mooringref01_Mul.l0]
        rw [if_pos hlt, ht, if_pos (by omega), hx2, hd, ho, hi1, ← hX]
        split <;> rfl
      · have := ih (i + 1) (xt x) (out ^^^ x) (y / 2) (by omega) (by omega)
        simp only [M, if_pos hy1]
        rw [← BitVec.xor_assoc]
        exact this
    · refine Ev.step (f := fun k => mooringref01_Mul.l0 k (ofB (xt x)) ((y / 2 : Nat) : Int) (ofB out) ((i + 1 : Nat) : Int)) (fun k => ?_) ?_
      · simp only [mooringref01_Mul.l0]
        rw [if_pos hlt, ht, if_neg (by omega), hx2, hd, hi1, ← hX]
        split <;> rfl
      · have := ih (i + 1) (xt x) out (y / 2) (by omega) (by omega)
        simp only [M, if_neg hy1, BitVec.zero_xor]
        exact this
theorem refMul (a b : B) : Ev (fun k => mooringref01_Mul.f k (ofB a) (ofB b)) (ofB (mul a b)) := by
  have ha := ofB_range a
  have hb := ofB_range b
  refine Ev.congr (f := fun k => mooringref01_Mul.l0 k (ofB a) ((b.toNat : Nat) : Int) (ofB 0#8) ((0 : Nat) : Int)) (fun k => ?_) ?_
  · unfold mooringref01_Mul.f
    rw [w64 _ (by omega) (by omega), w64 _ (by omega) (by omega)]
    rfl
  · have := refMul_l0 8 0 a 0#8 b.toNat rfl b.isLt
    rw [BitVec.zero_xor] at this
    exact this

theorem refInv_l0 (a : B) (n : Nat) : ∀ i : Nat, i + n = 256 → (∀ j, j < i → mul a (BitVec.ofNat 8 j) ≠ 1#8) → Ev (fun k => mooringref01_Inv.l0 k (ofB a) (i : Int)) (ofB (inv a), decide (a ≠ 0#8)) := by
  induction n with
  | zero =>
    intro i hi hn
    have ha : a = 0#8 := by
      apply Classical.byContradiction
      intro ha
      have := hn (inv a).toNat (by have := (inv a).isLt; omega)
      rw [BitVec.ofNat_toNat, BitVec.setWidth_eq] at this
      exact this (mul_inv a ha)
    refine Ev.step (f := fun _ => some (0, false)) (fun k => ?_) ?_
    · simp only [mooringref01_Inv.l0]
      rw [if_neg (by omega)]
    · subst ha
      exact Ev.now _
  | succ n ih =>
    intro i hi hn
    have hb : ((i : Int) % 256) = ofB (BitVec.ofNat 8 i) := by
      unfold ofB
      rw [BitVec.toNat_ofNat]
      omega
    refine Ev.step (f := fun k => (mooringref01_Mul.f k (ofB a) (ofB (BitVec.ofNat 8 i))).bind fun t => if t = 1 then some (ofB (BitVec.ofNat 8 i), true) else mooringref01_Inv.l0 k (ofB a) ((i + 1 : Nat) : Int)) (fun k => ?_) ?_
    · simp only [mooringref01_Inv.l0]
      rw [if_pos (by omega), hb, w64 _ (by omega) (by omega)]
      rfl
    · refine Ev.bind (refMul a _) ?_
      by_cases h1 : mul a (BitVec.ofNat 8 i) = 1#8
      · obtain ⟨ha, hi'⟩ := mul_eq_one _ _ h1
        refine Ev.congr (f := fun _ => some (ofB (BitVec.ofNat 8 i), true)) (fun k => ?_) ?_
        · rw [if_pos (by rw [h1]; rfl)]
        · rw [hi', decide_eq_true ha]
          exact Ev.now _
      · refine Ev.congr (f := fun k => mooringref01_Inv.l0 k (ofB a) ((i + 1 : Nat) : Int)) (fun k => ?_) ?_
        · rw [if_neg]
          rw [← ofB_one, ofB_eq_iff]
          exact h1
        · refine ih (i + 1) (by omega) (fun j hj => ?_)
          by_cases e : j = i
          · rw [e]; exact h1
          · exact hn j (by omega)
theorem refInv (a : B) : Ev (fun k => mooringref01_Inv.f k (ofB a)) (ofB (inv a), decide (a ≠ 0#8)) := by
  refine Ev.congr (f := fun k => mooringref01_Inv.l0 k (ofB a) ((1 : Nat) : Int)) (fun k => rfl) ?_
  refine refInv_l0 a 255 1 rfl (fun j hj => ?_)
  have : j = 0 := by omega
  subst this
  rw [show BitVec.ofNat 8 0 = 0#8 from rfl, mul_zero]
  decide
theorem refDiv (a b : B) : Ev (fun k => mooringref01_Div.f k (ofB a) (ofB b)) (ofB (mul a (inv b)), decide (b ≠ 0#8)) := by
  refine Ev.bind (refInv b) ?_
  by_cases hb : b = 0#8
  · subst hb
    refine Ev.congr (f := fun _ => some (0, false)) (fun k => rfl) ?_
    rw [inv_zero, mul_zero]
    exact Ev.now _
  · rw [decide_eq_true hb]
    refine Ev.congr (f := fun k => (mooringref01_Mul.f k (ofB a) (ofB (inv b))).bind fun t => some (t, true)) (fun k => rfl) ?_
    exact Ev.bind (refMul a _) (Ev.now _)
theorem gfDiv_eq (a b : B) : gf_Div.f (ofB a) (ofB b) = some (ofB (mul a (inv b)), decide (b ≠ 0#8)) := by
  unfold gf_Div.f
  rw [gfInv_eq]
  simp only [Option.bind_some]
  rw [gfMul_eq]
  rfl
end Go.Proofs.Ytbogmlckbkogiaa.Gf
