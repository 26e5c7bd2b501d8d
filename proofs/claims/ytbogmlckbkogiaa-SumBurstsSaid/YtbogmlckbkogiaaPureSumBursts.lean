/- Any change of bytes within 32 bits one behind the other turns their sum, and no change leaves it (the law SumBursts answers true). Conditions: none. -/
import Derived.Test.YtbogmlckbkogiaaCrd
import Derived.Test.YtbogmlckbkogiaaPMooringlaw04SumBursts
namespace Go.Proofs.Ytbogmlckbkogiaa.Pure
open Go.RowKit Go.Proofs.YtbogmlckbkogiaaW.PrintWords Go.Proofs.Ytbogmlckbkogiaa.Leaf Go.Proofs.Ytbogmlckbkogiaa.P Go.Proofs.Ytbogmlckbkogiaa.Gf Go.Proofs.Ytbogmlckbkogiaa.H Go.Proofs.Ytbogmlckbkogiaa.Crc
theorem step_flip (z : W32) (c d : B) : Crc.step z (c ^^^ d) = Sn 8 (wd d) ^^^ Crc.step z c := by
  unfold Crc.step
  rw [wd_xor, ← Sn_xor]
  congr 1
  ac_rfl
theorem F_flip (d : B) (C : List B) : ∀ (p : Nat) (z : W32), p < C.length → F z (C.set p (at0 C p ^^^ d)) = F z C ^^^ Sn (8 * (C.length - p)) (wd d) := by
  induction C with
  | nil => intro p z hp; exact absurd hp (by simp)
  | cons c C ih =>
    intro p z hp
    cases p with
    | zero =>
      show F (Crc.step z (c ^^^ d)) C = F (Crc.step z c) C ^^^ _
      rw [step_flip, F_xor, ← Sn_add, BitVec.xor_comm]
      congr 2
      rw [List.length_cons]
      omega
    | succ p =>
      have := ih p (Crc.step z c) (by simpa using hp)
      rw [List.length_cons, show C.length + 1 - (p + 1) = C.length - p by omega]
      exact this
theorem one8 : ∀ r : Fin 8, Sn 8 (wd (1#8 <<< r.val)) = Sn (8 - r.val) 1#32 := by decide +kernel
theorem one32 : ∀ i : Fin 32, Sn i.val (1#32 <<< i.val) = 1#32 := by decide +kernel
/-- A bit turned at place `q + i` turns the sum's word as the same bit of the burst does. -/
theorem F_bit (C : List B) (z : W32) (q i : Nat) (hi : i < 32) (h : q + i < 8 * C.length) :
    F z (C.set ((q + i) / 8) (at0 C ((q + i) / 8) ^^^ (1#8 <<< ((q + i) % 8)))) = F z C ^^^ Sn (8 * C.length - q) (1#32 <<< i) := by
  rw [F_flip _ _ _ _ (by omega)]
  congr 1
  have h1 := one8 ⟨(q + i) % 8, by omega⟩
  have h2 := one32 ⟨i, hi⟩
  simp only at h1 h2
  have hR : Sn (8 * C.length - q) (1#32 <<< i) = Sn (8 * C.length - q - i) 1#32 := by
    rw [show 8 * C.length - q = i + (8 * C.length - q - i) by omega, Sn_add, h2]
    congr 1
    omega
  rw [hR, show 8 * (C.length - (q + i) / 8) = 8 + 8 * (C.length - (q + i) / 8 - 1) by omega, Sn_add, h1, ← Sn_add]
  congr 1
  omega
theorem word_of {a : Int} (h : (Lit.int .u32 a).wf = true) : ∃ x : W32, a = ofW x := by
  have h1 : 0 ≤ a ∧ a ≤ 4294967295 := by simpa [Lit.wf, IntKind.min, IntKind.max, IntKind.signed, IntKind.bits] using h
  refine ⟨BitVec.ofNat 32 a.toNat, ?_⟩
  unfold ofW
  rw [BitVec.toNat_ofNat]
  omega
theorem tmod2 (y : W32) : Int.tmod (ofW y) 2 = if y.getLsbD 0 then 1 else 0 := by
  unfold ofW
  rw [Int.tmod_eq_emod_of_nonneg (by omega)]
  unfold BitVec.getLsbD
  rw [Nat.testBit_zero]
  by_cases h2 : y.toNat % 2 = 1
  · simp [h2]; omega
  · simp [h2]; omega
theorem shr_ofW (x : W32) (i : Nat) (hi : i < 32) : shr .u32 (ofW x) (IntKind.u64.wrap (i : Int)) = ofW (x >>> i) := by
  have ek : IntKind.u64.wrap (i : Int) = (i : Int) := by rw [IntKind.wrap_u64]; omega
  rw [ek]
  unfold shr ofW
  rw [Int.toNat_natCast, show min i IntKind.u32.bits = i from Nat.min_eq_left (by show i ≤ 32; omega), BitVec.toNat_ushiftRight, Nat.shiftRight_eq_div_pow]
  rfl
theorem shl_one : ∀ r : Fin 8, shl .u8 1 (IntKind.u64.wrap ((r.val : Nat) : Int)) = ofB (1#8 <<< r.val) := by decide +kernel
theorem bursts_l0 (L : List B) (x : W32) (q : Nat) (hq : q < 8 * L.length) (hs : L.length < 2 ^ 48) (n : Nat) : ∀ (i : Nat) (C : List B) (y : W32), i + n = 32 → C.length = L.length →
    F ones C = F ones L ^^^ Sn (8 * L.length - q) y → (∀ j, i ≤ j → y.getLsbD j = false) →
    Ev (fun k => mooringlaw04_SumBursts.l0 k (ofL L) (ofW x) ((8 * L.length : Nat) : Int) (q : Int) (ofL C) (y != 0#32) (i : Int)) true := by
  have last : ∀ (i : Nat) (C : List B) (y : W32), C.length = L.length → F ones C = F ones L ^^^ Sn (8 * L.length - q) y →
      Ev (fun k => mooringlaw04_SumBursts.j3 k (ofL L) (ofW x) ((8 * L.length : Nat) : Int) (q : Int) (ofL C) (y != 0#32) (i : Int) false) true := by
    intro i C y hC hF
    refine Ev.step (f := fun _ => some true) (fun k => ?_) (Ev.now _)
    simp only [mooringlaw04_SumBursts.j3, Bool.false_eq_true, if_false, sumOf_eq, Option.bind_some, awake4]
    have e : (ofW (sumB C) != ofW (sumB L)) = (y != 0#32) := by
      rw [Bool.eq_iff_iff, bne_iff_ne, bne_iff_ne]
      refine not_congr ⟨?_, ?_⟩
      · intro h
        have h1 := ofW_inj h
        have h2 : ones ^^^ F ones C = ones ^^^ F ones L := by
          have e0 : ones ^^^ 0#32 = ones := BitVec.xor_zero
          simpa only [sumB, more, e0] using h1
        have h3 : F ones C = F ones L := by
          have := congrArg (ones ^^^ ·) h2
          simpa only [← BitVec.xor_assoc, BitVec.xor_self, BitVec.zero_xor] using this
        rw [hF] at h3
        have h4 : Sn (8 * L.length - q) y = 0#32 := by
          have := congrArg (F ones L ^^^ ·) h3
          simpa only [← BitVec.xor_assoc, BitVec.xor_self, BitVec.zero_xor] using this
        exact Sn_ne _ _ h4
      · intro h
        rw [h, Sn_zero, BitVec.xor_zero] at hF
        unfold sumB more
        rw [show ones ^^^ 0#32 = ones from BitVec.xor_zero, hF]
    rw [e, beq_self_eq_true, if_pos rfl]
  induction n with
  | zero =>
    intro i C y hi hC hF hy
    refine Ev.step (fun k => ?_) (last i C y hC hF)
    simp only [mooringlaw04_SumBursts.l0]
    rw [if_neg (by omega)]
  | succ n ih =>
    intro i C y hi hC hF hy
    have e0 : wrap64 ((q : Int) + (i : Int)) = ((q + i : Nat) : Int) := by rw [w64 _ (by omega) (by omega)]; omega
    by_cases hb : q + i < 8 * L.length
    · refine Ev.step (f := fun k => mooringlaw04_SumBursts.j3 k (ofL L) (ofW x) ((8 * L.length : Nat) : Int) (q : Int) (ofL C) (y != 0#32) (i : Int) true) (fun k => ?_) ?_
      · simp only [mooringlaw04_SumBursts.l0]
        rw [if_pos (by omega), e0, decide_eq_true (by omega)]
      · have en : wrap64 ((i : Int) + 1) = ((i + 1 : Nat) : Int) := by rw [w64 _ (by omega) (by omega)]; omega
        by_cases hx : x.getLsbD i = true
        · refine Ev.step (f := fun k => mooringlaw04_SumBursts.l0 k (ofL L) (ofW x) ((8 * L.length : Nat) : Int) (q : Int) (ofL (C.set ((q + i) / 8) (at0 C ((q + i) / 8) ^^^ (1#8 <<< ((q + i) % 8))))) ((y ^^^ 1#32 <<< i) != 0#32) ((i + 1 : Nat) : Int)) (fun k => ?_) (ih (i + 1) _ _ (by omega) (by rw [List.length_set, hC]) ?_ ?_)
          · simp only [mooringlaw04_SumBursts.j3, if_true]
            have e1 : wrap64 (Int.tdiv ((q + i : Nat) : Int) 8) = (((q + i) / 8 : Nat) : Int) := by
              rw [Int.tdiv_eq_ediv_of_nonneg (by omega), w64 _ (by omega) (by omega)]
              omega
            have e2 : Int.tmod ((q + i : Nat) : Int) 8 = (((q + i) % 8 : Nat) : Int) := by
              rw [Int.tmod_eq_emod_of_nonneg (by omega)]
              omega
            have e3 : ((y ^^^ 1#32 <<< i) != 0#32) = true := by
              rw [bne_iff_ne]
              intro h
              have := congrArg (fun y : W32 => y.getLsbD i) h
              simp only [BitVec.getLsbD_xor, hy i (Nat.le_refl _), BitVec.getLsbD_shiftLeft] at this
              simp [show i < 32 by omega] at this
            rw [if_pos (by rw [IntKind.wrap_u64]; omega), shr_ofW x i (by omega), tmod2, BitVec.getLsbD_ushiftRight, Nat.add_zero, hx, if_pos rfl, if_pos rfl, e0, e1, e2, if_pos (by omega), if_pos (by rw [ofL_length]; omega), if_pos (by rw [IntKind.wrap_u64]; omega), shl_one ⟨(q + i) % 8, by omega⟩, rd_ofL, xor_ofB, Int.toNat_natCast, ofL_set, en, e3]
          · rw [show 8 * L.length = 8 * C.length by rw [hC], F_bit C ones q i (by omega) (by omega), hF, Sn_xor, BitVec.xor_assoc, hC]
          · intro j hj
            rw [BitVec.getLsbD_xor, hy j (by omega), BitVec.getLsbD_shiftLeft]
            by_cases hj2 : j < 32
            · simp [hj2, show ¬ j < i by omega, show j - i ≠ 0 by omega]
            · simp [hj2]
        · have hx' : x.getLsbD i = false := by simpa using hx
          refine Ev.step (f := fun k => mooringlaw04_SumBursts.l0 k (ofL L) (ofW x) ((8 * L.length : Nat) : Int) (q : Int) (ofL C) (y != 0#32) ((i + 1 : Nat) : Int)) (fun k => ?_) (ih (i + 1) C y (by omega) hC hF (fun j hj => hy j (by omega)))
          simp only [mooringlaw04_SumBursts.j3, if_true]
          rw [if_pos (by rw [IntKind.wrap_u64]; omega), shr_ofW x i (by omega), tmod2, BitVec.getLsbD_ushiftRight, Nat.add_zero, hx', if_neg (by decide), en]
    · refine Ev.step (fun k => ?_) (last i C y hC hF)
      simp only [mooringlaw04_SumBursts.l0]
      rw [if_pos (by omega), e0, decide_eq_false (by omega)]
theorem SumBursts : mooringlaw04_SumBursts.Pure := by
  intro l0 a1 a2 hm0 hw0 r0 w1 w2
  obtain ⟨L, rfl⟩ := row_of r0
  obtain ⟨x, rfl⟩ := word_of w2
  have h1 : -9223372036854775808 ≤ a1 ∧ a1 ≤ 9223372036854775807 := by
    simpa [Lit.wf, IntKind.min, IntKind.max, IntKind.signed, IntKind.bits] using w1
  rw [ofL_length] at hw0
  apply Ev.rounds
  have triv : ∀ z, Ev (fun k => mooringlaw04_SumBursts.j0 k (ofL L) z (ofW x) true) true := by
    intro z
    refine Ev.step (f := fun _ => some true) (fun k => ?_) (Ev.now _)
    simp only [mooringlaw04_SumBursts.j0, if_true, awake4, Option.bind_some]
  unfold mooringlaw04_SumBursts.f
  simp only [ofL_length]
  by_cases hL : L.length = 0
  · simp only [show ((L.length : Int) = 0) = True from eq_true (by omega), if_true]
    exact triv a1
  · simp only [show ((L.length : Int) = 0) = False from eq_false (by omega), if_false]
    by_cases hx : ofW x = 0
    · rw [show (ofW x == 0) = true from beq_iff_eq.mpr hx]
      exact triv a1
    · rw [show (ofW x == 0) = false from beq_eq_false_iff_ne.mpr hx]
      have e8 : wrap64 (8 * (L.length : Int)) = ((8 * L.length : Nat) : Int) := by rw [w64 _ (by omega) (by omega)]; omega
      have main : ∀ q : Nat, q < 8 * L.length → Ev (fun k => mooringlaw04_SumBursts.j1 k (ofL L) (ofW x) ((8 * L.length : Nat) : Int) (q : Int)) true := by
        intro q hq
        refine Ev.step (f := fun k => mooringlaw04_SumBursts.l0 k (ofL L) (ofW x) ((8 * L.length : Nat) : Int) (q : Int) (ofL L) (0#32 != 0#32) ((0 : Nat) : Int)) (fun k => ?_) (bursts_l0 L x q hq (by omega) 32 0 L 0#32 rfl rfl (by rw [Sn_zero, BitVec.xor_zero]) (fun j _ => by simp))
        simp only [mooringlaw04_SumBursts.j1, Option.bind_some, List.length_nil, Nat.zero_add, ofL_length, List.nil_append]
        rw [if_pos (by omega)]
        rfl
      have hm := Int.tmod_lt_of_pos a1 (b := ((8 * L.length : Nat) : Int)) (by omega)
      have hm2 := Int.lt_tmod_of_pos a1 (b := ((8 * L.length : Nat) : Int)) (by omega)
      by_cases hneg : Int.tmod a1 ((8 * L.length : Nat) : Int) < 0
      · refine Ev.step (fun k => ?_) (main (Int.tmod a1 ((8 * L.length : Nat) : Int) + ((8 * L.length : Nat) : Int)).toNat (by omega))
        simp only [mooringlaw04_SumBursts.j0, Bool.false_eq_true, if_false, ofL_length]
        rw [e8, if_neg (by omega), if_pos hneg, w64 _ (by omega) (by omega)]
        congr 1
        omega
      · refine Ev.step (fun k => ?_) (main (Int.tmod a1 ((8 * L.length : Nat) : Int)).toNat (by omega))
        simp only [mooringlaw04_SumBursts.j0, Bool.false_eq_true, if_false, ofL_length]
        rw [e8, if_neg (by omega), if_neg hneg]
        congr 1
        omega
end Go.Proofs.Ytbogmlckbkogiaa.Pure
