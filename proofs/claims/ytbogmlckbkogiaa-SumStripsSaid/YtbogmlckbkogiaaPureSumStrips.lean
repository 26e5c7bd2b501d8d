/- Strip answers any bytes: those before the last four where these are their sum, and no elsewhere (the law SumStrips answers true). Conditions: none. -/
import Derived.Test.YtbogmlckbkogiaaCrd
import Derived.Test.YtbogmlckbkogiaaPMooringlaw04SumStrips
namespace Go.Proofs.Ytbogmlckbkogiaa.Pure
open Go.RowKit Go.Proofs.YtbogmlckbkogiaaW.PrintWords Go.Proofs.Ytbogmlckbkogiaa.Leaf Go.Proofs.Ytbogmlckbkogiaa.P Go.Proofs.Ytbogmlckbkogiaa.Gf Go.Proofs.Ytbogmlckbkogiaa.H Go.Proofs.Ytbogmlckbkogiaa.Crc
theorem SumStrips : mooringlaw04_SumStrips.Pure := by
  intro l0 hm0 hw0 r0
  obtain ⟨L, rfl⟩ := row_of r0
  rw [ofL_length] at hw0
  apply Ev.rounds
  unfold mooringlaw04_SumStrips.f
  simp only [strip_eq L (by omega), Option.bind_some, ofL_length, w64 ((L.length : Int) - 4) (by omega) (by omega)]
  by_cases h4 : L.length < 4
  · simp only [show ((L.length : Int) - 4 < 0) = True from eq_true (by omega), if_true]
    refine Ev.step (f := fun _ => some true) (fun k => ?_) (Ev.now _)
    unfold stripB
    rw [if_pos h4]
    simp only [mooringlaw04_SumStrips.j0, if_true, Bool.false_eq_true, if_false, List.length_nil, awake4, Option.bind_some]
    rfl
  · simp only [show ((L.length : Int) - 4 < 0) = False from eq_false (by omega), if_false, show (0 ≤ (L.length : Int) - 4) = True from eq_true (by omega), show ((L.length : Int) - 4 ≤ (L.length : Int)) = True from eq_true (by omega), if_true, show ((L.length : Int) - 4).toNat = L.length - 4 by omega, take_ofL]
    refine Ev.bind (refAppend _ (by rw [List.length_take]; omega)) ?_
    refine Ev.step (f := fun _ => some true) (fun k => ?_) (Ev.now _)
    unfold stripB
    rw [if_neg h4]
    by_cases h : (strOfNums (appB (L.take (L.length - 4)))).toList = (strOfNums (ofL L)).toList
    · rw [if_pos h, h, bne_self_eq_false]
      simp only [mooringlaw04_SumStrips.j0, if_true, Bool.false_eq_true, if_false, ofL_length]
      rw [if_pos (by omega), if_pos (by omega), show ((L.length : Int) - 4).toNat = L.length - 4 by omega, take_ofL, if_pos rfl, awake4]
      rfl
    · rw [if_neg h, show ((strOfNums (appB (L.take (L.length - 4)))).toList != (strOfNums (ofL L)).toList) = true from bne_iff_ne.mpr h]
      simp only [mooringlaw04_SumStrips.j0, if_true, Bool.false_eq_true, if_false, List.length_nil, awake4, Option.bind_some]
      rfl
end Go.Proofs.Ytbogmlckbkogiaa.Pure
