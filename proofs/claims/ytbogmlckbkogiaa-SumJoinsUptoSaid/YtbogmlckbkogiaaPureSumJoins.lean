/- Sums of pieces, gone on or joined, are the whole's (the law SumJoins answers true). Conditions: both pieces together at most 1048576 bytes. -/
import Derived.Test.YtbogmlckbkogiaaCrd
import Derived.Test.YtbogmlckbkogiaaUpSumJoins
namespace Go.Proofs.Ytbogmlckbkogiaa.Pure
open Go.RowKit Go.Proofs.YtbogmlckbkogiaaW.PrintWords Go.Proofs.Ytbogmlckbkogiaa.Leaf Go.Proofs.Ytbogmlckbkogiaa.P Go.Proofs.Ytbogmlckbkogiaa.Gf Go.Proofs.Ytbogmlckbkogiaa.H Go.Proofs.Ytbogmlckbkogiaa.Crc
theorem join_eq (a b : W32) (n : Nat) (hn : n ≤ 1048576) : sum_Join.f (ofW a) (ofW b) (n : Int) = some (ofW (Sn (8 * n) a ^^^ b), true) := by
  unfold sum_Join.f sum_zeros.f
  rw [if_neg (by omega), if_neg (by omega), if_pos (by omega), Option.bind_some, Int.toNat_natCast, iterZ_eq, xor_ofW]
theorem joins_j0 (n : Int) : Ev (fun k => mooringlaw04_SumJoins.j0 k n) true := by
  have h1 : ∀ b : Bool, b = (decide (0 ≤ n) && decide (n ≤ 1048576)) → Ev (fun k => mooringlaw04_SumJoins.j1 k n b) true := by
    intro b hb
    refine Ev.step (f := fun _ => some true) (fun k => ?_) (Ev.now _)
    simp only [mooringlaw04_SumJoins.j1]
    cases b with
    | true => rw [if_pos rfl, awake4]; rfl
    | false =>
      rw [if_neg (by decide), awake4]
      have : sum_Join.f 1 2 n = some (0, false) := by
        unfold sum_Join.f
        by_cases h0 : n < 0
        · rw [if_pos h0]
        · rw [if_neg h0]
          by_cases hc : n > 1048576
          · rw [if_pos hc]
          · exfalso
            rw [decide_eq_true (by omega), decide_eq_true (by omega)] at hb
            cases hb
      rw [this]
      rfl
  by_cases h0 : n ≥ 0
  · refine Ev.step (fun k => ?_) (h1 (decide (n ≤ 1048576)) (by rw [decide_eq_true h0]; rfl))
    simp only [mooringlaw04_SumJoins.j0]
    rw [if_pos h0]
  · refine Ev.step (fun k => ?_) (h1 false (by rw [decide_eq_false h0]; rfl))
    simp only [mooringlaw04_SumJoins.j0]
    rw [if_neg h0]
theorem SumJoins : mooringlaw04_SumJoins.PureU := by
  intro l0 l1 n hu hm0 hw0 r0 hm1 hw1 r1 w2
  obtain ⟨L, rfl⟩ := row_of r0
  obtain ⟨M, rfl⟩ := row_of r1
  rw [ofL_length, ofL_length] at hu
  apply Ev.rounds
  unfold mooringlaw04_SumJoins.f
  have e : ofL L ++ ofL M = ofL (L ++ M) := by unfold ofL; rw [List.map_append]
  simp only [Option.bind_some, List.length_nil, Nat.zero_add, ofL_length, List.nil_append, show (L.length < 140737488355328) = True from eq_true (by omega), show (L.length + M.length < 140737488355328) = True from eq_true (by omega), if_true, e, sumOf_eq, sumMore_eq, more_append, show ((M.length : Int) ≤ 1048576) = True from eq_true (by omega), join_eq _ _ M.length (by omega), join_append]
  refine Ev.bind (refOf (L ++ M) (by rw [List.length_append]; omega)) ?_
  simp only [if_true]
  exact joins_j0 n
end Go.Proofs.Ytbogmlckbkogiaa.Pure
