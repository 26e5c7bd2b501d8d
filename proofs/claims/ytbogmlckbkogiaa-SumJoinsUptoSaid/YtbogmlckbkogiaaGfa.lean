import Derived.Test.YtbogmlckbkogiaaGf
import Derived.Test.YtbogmlckbkogiaaLeafC
namespace Go.Proofs.Ytbogmlckbkogiaa.Gf
open Go.RowKit Go.Proofs.YtbogmlckbkogiaaW.PrintWords Go.Proofs.Ytbogmlckbkogiaa.Leaf
def toB (x : Int) : B := BitVec.ofInt 8 x
def ofB (b : B) : Int := (b.toNat : Int)
theorem ofB_range (b : B) : 0 ≤ ofB b ∧ ofB b < 256 := by
  have := b.isLt
  unfold ofB
  omega
theorem toB_ofB (b : B) : toB (ofB b) = b := by
  unfold toB ofB
  rw [BitVec.ofInt_natCast]
  simp
theorem ofB_toB (x : Int) (h0 : 0 ≤ x) (h1 : x < 256) : ofB (toB x) = x := by
  unfold toB ofB
  obtain ⟨n, rfl⟩ := Int.eq_ofNat_of_zero_le h0
  rw [BitVec.ofInt_natCast, BitVec.toNat_ofNat]
  omega
theorem ofB_inj {a b : B} (h : ofB a = ofB b) : a = b := by rw [← toB_ofB a, h, toB_ofB]
theorem ofB_eq_iff (a b : B) : ofB a = ofB b ↔ a = b := ⟨ofB_inj, fun h => by rw [h]⟩
theorem exists_B (x : Int) (h0 : 0 ≤ x) (h1 : x < 256) : ∃ b : B, x = ofB b := ⟨toB x, (ofB_toB x h0 h1).symm⟩
theorem ofB_zero : ofB 0#8 = 0 := rfl
theorem ofB_one : ofB 1#8 = 1 := rfl
theorem ofB_eq_zero (a : B) : ofB a = 0 ↔ a = 0#8 := by rw [← ofB_zero, ofB_eq_iff]
theorem xor_u8 (x y : Int) : Go.bits .xor .u8 x y = ofB (toB x ^^^ toB y) := by
  unfold Go.bits
  have h := (toB x ^^^ toB y).isLt
  show IntKind.u8.wrap (((toB x ^^^ toB y).toNat : Nat) : Int) = _
  rw [IntKind.wrap_u8]
  unfold ofB
  omega
theorem xor_ofB (a b : B) : Go.bits .xor .u8 (ofB a) (ofB b) = ofB (a ^^^ b) := by rw [xor_u8, toB_ofB, toB_ofB]
theorem xor_i64_nat (a b : Nat) (ha : a < 2 ^ 62) (hb : b < 2 ^ 62) : Go.bits .xor .i64 (a : Int) (b : Int) = ((a ^^^ b : Nat) : Int) := by
  have h := Nat.xor_lt_two_pow ha hb
  unfold Go.bits
  simp only [BitVec.ofInt_natCast, BitVec.toNat_xor, BitVec.toNat_ofNat]
  show IntKind.i64.wrap (((a % 2 ^ 64) ^^^ (b % 2 ^ 64) : Nat) : Int) = _
  rw [Nat.mod_eq_of_lt (Nat.lt_trans ha (by decide)), Nat.mod_eq_of_lt (Nat.lt_trans hb (by decide))]
  exact IntWalk.i64_in _ (by omega)
theorem xor_i64_ofB (a b : B) : Go.bits .xor .i64 (ofB a) (ofB b) = ofB (a ^^^ b) := by
  have h1 := a.isLt
  have h2 := b.isLt
  unfold ofB
  rw [xor_i64_nat _ _ (by omega) (by omega), BitVec.toNat_xor]
theorem tabE_ex : ∀ i : Fin 255, rd tabE (i.val : Int) = ofB (ex i.val) := by decide +kernel
theorem tabL_ex : ∀ i : Fin 256, i ≠ 0 → 0 ≤ rd tabL (i.val : Int) ∧ rd tabL (i.val : Int) < 255 ∧ ex (rd tabL (i.val : Int)).toNat = BitVec.ofFin i := by decide +kernel
theorem rdE (i : Int) (h0 : 0 ≤ i) (h1 : i < 255) : rd tabE i = ofB (ex i.toNat) := by
  have := tabE_ex ⟨i.toNat, by omega⟩
  simpa [Int.toNat_of_nonneg h0] using this
theorem rdL (b : B) (hb : b ≠ 0#8) : rd tabL (ofB b) = (lg b : Int) ∧ lg b < 255 := by
  have h := tabL_ex b.toFin (fun e => hb (by rw [BitVec.eq_of_toFin_eq (x := b) (y := 0#8) (by rw [e]; rfl)]))
  have h2 := ex_lg b hb
  refine ⟨?_, h2.2⟩
  have h3 : (rd tabL (ofB b)).toNat = lg b := by
    apply ex_inj
    · have := h.2.1
      show (rd tabL ((b.toFin.val : Nat) : Int)).toNat < 255
      omega
    · exact h2.2
    · rw [h2.1]
      exact h.2.2
  have h4 : 0 ≤ rd tabL (ofB b) := h.1
  omega
theorem gfMul_eq (a b : B) : gf_Mul.f (ofB a) (ofB b) = some (ofB (mul a b)) := by
  unfold gf_Mul.f
  have ra := ofB_range a
  have rb := ofB_range b
  by_cases ha : a = 0#8
  · subst ha
    rw [if_pos ofB_zero, zero_mul, ofB_zero]
  rw [if_neg (by rw [ofB_eq_zero]; exact ha)]
  by_cases hb : b = 0#8
  · subst hb
    rw [if_pos ofB_zero, mul_zero, ofB_zero]
  rw [if_neg (by rw [ofB_eq_zero]; exact hb), if_pos ra.1, if_pos ra.2, if_pos rb.1, if_pos rb.2]
  obtain ⟨la, ha'⟩ := rdL a ha
  obtain ⟨lb, hb'⟩ := rdL b hb
  rw [la, lb, rdE _ (by omega) (by omega)]
  congr 2
  have : (((lg a : Int) + (lg b : Int)) % 255).toNat = (lg a + lg b) % 255 := by omega
  rw [this, ex_mod, ← mul_ex, (ex_lg a ha).1, (ex_lg b hb).1]
theorem gfInv_eq (a : B) : gf_Inv.f (ofB a) = some (ofB (inv a), decide (a ≠ 0#8)) := by
  unfold gf_Inv.f
  have ra := ofB_range a
  by_cases ha : a = 0#8
  · subst ha
    rw [if_pos ofB_zero]
    rfl
  rw [if_neg (by rw [ofB_eq_zero]; exact ha), if_pos ra.1, if_pos ra.2]
  obtain ⟨la, ha'⟩ := rdL a ha
  rw [la, rdE _ (by omega) (by omega)]
  have : ((255 - (lg a : Int)) % 255).toNat = (255 - lg a) % 255 := by omega
  rw [this, decide_eq_true ha]
  unfold inv
  rw [if_neg ha]
theorem gfLog_eq (a : B) (ha : a ≠ 0#8) : gf_Log.f (ofB a) = some ((lg a : Int), true) := by
  unfold gf_Log.f
  have ra := ofB_range a
  rw [if_pos ra.1, if_pos ra.2, (rdL a ha).1]
  have : (ofB a != 0) = true := by
    rw [bne_iff_ne, Ne, ofB_eq_zero]; exact ha
  rw [this]
theorem gfLog_zero : gf_Log.f 0 = some (0, false) := by decide +kernel
theorem gm_eq (n : Int) : gm n = n % 255 := by
  have h1 := Int.tmod_lt_of_pos n (b := 255) (by decide)
  have h2 := Int.lt_tmod_of_pos n (b := 255) (by decide)
  unfold gm
  rw [show wrap64 (n.tmod 255 + 255) = n.tmod 255 + 255 by unfold wrap64; omega, Int.tmod_eq_emod_of_nonneg (by omega), Int.add_emod_right]
  rcases Int.le_total 0 n with h | h
  · rw [Int.tmod_eq_emod_of_nonneg h, Int.emod_emod]
  · have := Int.mul_tdiv_add_tmod n 255
    omega
/-- A power of two, the exponent any whole number. -/
def exZ (n : Int) : B := ex (n % 255).toNat
theorem gfExp_eq (n : Int) : gf_Exp.f n = some (ofB (exZ n)) := by
  unfold gf_Exp.f exZ
  rw [gm_eq, rdE _ (by omega) (by omega)]
end Go.Proofs.Ytbogmlckbkogiaa.Gf
