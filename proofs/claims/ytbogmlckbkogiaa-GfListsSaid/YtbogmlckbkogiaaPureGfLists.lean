/- For any two rows of bytes and any byte gf.Dot answers as the reference's, and gf.AddMul gives the row of the sums and leaves its argument as it was (the law GfLists answers true). Conditions: none. -/
import Derived.Test.YtbogmlckbkogiaaPureGfMuls
import Derived.Test.YtbogmlckbkogiaaGfl
import Derived.Test.YtbogmlckbkogiaaPMooringlaw01GfLists
namespace Go.Proofs.Ytbogmlckbkogiaa.Pure
open Go.RowKit Go.Proofs.YtbogmlckbkogiaaW.PrintWords Go.Proofs.Ytbogmlckbkogiaa.Leaf Go.Proofs.Ytbogmlckbkogiaa.P Go.Proofs.Ytbogmlckbkogiaa.Gf
theorem lists_l0 (L M : List B) (s : B) (hL : L.length = M.length) (hs : L.length < 2 ^ 62) (n : Nat) : ∀ i : Nat, i + n = L.length → Ev (fun k => mooringlaw01_GfLists.l0 k (ofL L) (ofL M) (ofB s) (ofL (am L M s L.length)) (i : Int)) true := by
  induction n with
  | zero =>
    intro i hi
    refine Ev.step (f := fun _ => some true) (fun k => ?_) (Ev.now _)
    simp only [mooringlaw01_GfLists.l0, ofL_length]
    rw [if_neg (by omega), awake1]
    rfl
  | succ n ih =>
    intro i hi
    refine Ev.step (f := fun k => (mooringref01_Mul.f k (ofB (at0 M i)) (ofB s)).bind fun t120 => if ofB (at0 L i ^^^ mul (at0 M i) s) = Go.bits .xor .u8 (ofB (at0 L i)) t120 then mooringlaw01_GfLists.l0 k (ofL L) (ofL M) (ofB s) (ofL (am L M s L.length)) ((i + 1 : Nat) : Int) else some false) (fun k => ?_) ?_
    · simp only [mooringlaw01_GfLists.l0, ofL_length, am_length]
      rw [if_pos (by omega), if_pos trivial, if_pos (by omega), if_pos (by omega), if_pos (by omega), rd_ofL]
      simp only [rd_ofL, at0_am L M s L.length i (by omega), show (i < L.length) = True from eq_true (by omega), if_true, w64 ((i : Int) + 1) (by omega) (by omega)]
      rfl
    · refine Ev.bind (refMul _ _) ?_
      simp only [xor_ofB, if_true]
      exact ih (i + 1) (by omega)
theorem GfLists : mooringlaw01_GfLists.Pure := by
  intro l0 l1 a2 hm0 hw0 r0 hm1 hw1 r1 w2
  obtain ⟨L, rfl⟩ := row_of r0
  obtain ⟨M, rfl⟩ := row_of r1
  obtain ⟨s, rfl⟩ := byte_of w2
  rw [ofL_length] at hw0 hw1
  apply Ev.rounds
  unfold mooringlaw01_GfLists.f
  simp only [Option.bind_some, List.length_nil, Nat.zero_add, ofL_length, List.nil_append, show (L.length < 140737488355328) = True from eq_true (by omega), if_true]
  refine Ev.bind (gfDot L M (by omega)) ?_
  refine Ev.bind (refDot L M (by omega)) ?_
  refine Ev.bind (gfAddMul L M s (by omega)) ?_
  simp only [if_true, bne_self_eq_false, Bool.false_eq_true, if_false, refSame_self, Option.bind_some, Bool.not_true]
  unfold addMulB dotB
  by_cases h : L.length = M.length
  · simp only [if_pos h, bne_self_eq_false, Bool.false_eq_true, if_false]
    refine Ev.step (f := fun k => mooringlaw01_GfLists.l0 k (ofL L) (ofL M) (ofB s) (ofL (am L M s L.length)) ((0 : Nat) : Int)) (fun k => ?_) (lists_l0 L M s h (by omega) L.length 0 (by omega))
    simp only [mooringlaw01_GfLists.j0, Bool.false_eq_true, if_false, if_true]
    rfl
  · simp only [if_neg h, bne_self_eq_false, Bool.false_eq_true, if_false]
    refine Ev.step (f := fun _ => some true) (fun k => ?_) (Ev.now _)
    simp only [mooringlaw01_GfLists.j0, Bool.false_eq_true, if_false, awake1, Option.bind_some]
    rfl
end Go.Proofs.Ytbogmlckbkogiaa.Pure
