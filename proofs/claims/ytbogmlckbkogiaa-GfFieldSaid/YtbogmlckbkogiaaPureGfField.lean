/- Over all bytes gf's sums and products are associative, commutative, distributive, and each byte but 0 has an inverse and is Exp of its Log (the law GfField answers true). Conditions: none. -/
import Derived.Test.YtbogmlckbkogiaaPureGfMuls
import Derived.Test.YtbogmlckbkogiaaPMooringlaw01GfField
namespace Go.Proofs.Ytbogmlckbkogiaa.Pure
open Go.RowKit Go.Proofs.YtbogmlckbkogiaaW.PrintWords Go.Proofs.Ytbogmlckbkogiaa.Leaf Go.Proofs.Ytbogmlckbkogiaa.P Go.Proofs.Ytbogmlckbkogiaa.Gf
theorem gfAdd_eq (a b : B) : gf_Add.f (ofB a) (ofB b) = some (ofB (a ^^^ b)) := by
  unfold gf_Add.f; rw [xor_ofB]
theorem gfMul_one (a : B) : gf_Mul.f (ofB a) 1 = some (ofB a) := by
  have := gfMul_eq a 1#8
  rw [mul_one] at this
  exact this
theorem gfMul_nil (a : B) : gf_Mul.f (ofB a) 0 = some 0 := by
  have := gfMul_eq a 0#8
  rw [mul_zero] at this
  exact this
theorem GfField : mooringlaw01_GfField.Pure := by
  intro a0 a1 a2 w0 w1 w2
  obtain ⟨a, rfl⟩ := byte_of w0
  obtain ⟨b, rfl⟩ := byte_of w1
  obtain ⟨c, rfl⟩ := byte_of w2
  have h1 : ofB (mul a b) = ofB (mul b a) := by rw [mul_comm]
  have h2 : ofB (mul (mul a b) c) = ofB (mul a (mul b c)) := by rw [mul_assoc]
  have h3 : ofB (mul a (b ^^^ c)) = ofB (mul a b ^^^ mul a c) := by rw [mul_add]
  refine ⟨2, ?_⟩
  unfold mooringlaw01_GfField.f
  simp only [gfMul_eq, gfAdd_eq, Option.bind_some]
  rw [if_pos h1, if_pos h2, if_pos h3, gfMul_one]
  simp only [Option.bind_some, if_true]
  rw [gfMul_nil]
  simp only [Option.bind_some, mooringlaw01_GfField.j0, mooringlaw01_GfField.j1, gfInv_eq, bne_self_eq_false, Bool.false_eq_true, if_false]
  by_cases ha : a = 0#8
  · subst ha
    rw [ofB_zero, gfLog_zero]
    simp only [Option.bind_some]
    rw [awake1]
    simp
  · have hb : (ofB a != 0) = true := by rw [bne_iff_ne, Ne, ofB_eq_zero]; exact ha
    rw [gfLog_eq a ha, hb, decide_eq_true ha]
    simp only [Option.bind_some, bne_self_eq_false, Bool.false_eq_true, if_false, if_true, gfMul_eq, mul_inv a ha, ofB_one, gfExp_eq]
    have he : exZ (lg a : Int) = a := by
      have := ex_lg a ha
      unfold exZ
      rw [show ((lg a : Int) % 255).toNat = lg a by omega, this.1]
    rw [he, awake1]
    simp
end Go.Proofs.Ytbogmlckbkogiaa.Pure
