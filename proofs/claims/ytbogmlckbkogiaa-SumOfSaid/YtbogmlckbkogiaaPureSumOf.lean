/- For any bytes the program's sum is the reference's, Append puts it behind them, and Strip takes it off again (the law SumOf answers true). Conditions: none. -/
import Derived.Test.YtbogmlckbkogiaaCrd
import Derived.Test.YtbogmlckbkogiaaPMooringlaw04SumOf
namespace Go.Proofs.Ytbogmlckbkogiaa.Pure
open Go.RowKit Go.Proofs.YtbogmlckbkogiaaW.PrintWords Go.Proofs.Ytbogmlckbkogiaa.Leaf Go.Proofs.Ytbogmlckbkogiaa.P Go.Proofs.Ytbogmlckbkogiaa.Gf Go.Proofs.Ytbogmlckbkogiaa.H Go.Proofs.Ytbogmlckbkogiaa.Crc
theorem strip_app (L : List B) (hs : L.length + 4 < 140737488355328) : sum_Strip.f (appB L) = some (ofL L, true) := by
  unfold sum_Strip.f
  have ht : (appB L).take L.length = ofL L := by
    unfold appB
    rw [← ofL_length L, List.take_left']
    rfl
  rw [appB_length, if_neg (by omega), Nat.add_sub_cancel, ht, sumAppend_eq _ hs, Option.bind_some, if_pos rfl]
  unfold slices_Clone_byte_byte.f
  rw [ofL_length, if_pos (by omega)]
  rfl
theorem SumOf : mooringlaw04_SumOf.Pure := by
  intro l0 hm0 hw0 r0
  obtain ⟨L, rfl⟩ := row_of r0
  rw [ofL_length] at hw0
  apply Ev.rounds
  unfold mooringlaw04_SumOf.f
  simp only [Option.bind_some, List.length_nil, Nat.zero_add, ofL_length, List.nil_append, show (L.length < 140737488355328) = True from eq_true (by omega), if_true, sumOf_eq, sumAppend_eq L (by omega), strip_app L (by omega), awake4]
  refine Ev.bind (refOf L (by omega)) ?_
  simp only [if_true]
  refine Ev.bind (refAppend L (by omega)) ?_
  simp only [if_true]
  exact Ev.now _
end Go.Proofs.Ytbogmlckbkogiaa.Pure
