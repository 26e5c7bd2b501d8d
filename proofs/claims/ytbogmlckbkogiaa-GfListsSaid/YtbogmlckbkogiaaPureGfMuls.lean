/- For any two bytes gf.Add, gf.Mul, gf.Inv and gf.Div of the program answer as the reference's (the law GfMuls answers true). Conditions: none. -/
import Derived.Test.YtbogmlckbkogiaaGfb
import Derived.Test.YtbogmlckbkogiaaPMooringlaw01GfMuls
namespace Go.Proofs.Ytbogmlckbkogiaa.Pure
open Go.RowKit Go.Proofs.YtbogmlckbkogiaaW.PrintWords Go.Proofs.Ytbogmlckbkogiaa.Leaf Go.Proofs.Ytbogmlckbkogiaa.P Go.Proofs.Ytbogmlckbkogiaa.Gf
theorem byte_of {a : Int} (h : (Lit.int .u8 a).wf = true) : ∃ b : B, a = ofB b := by
  have h1 : 0 ≤ a ∧ a ≤ 255 := by simpa [Lit.wf, IntKind.min, IntKind.max, IntKind.signed, IntKind.bits] using h
  exact exists_B a h1.1 (by omega)
theorem awake1 : mooringlaw01_awake.f = some true := by
  unfold mooringlaw01_awake.f
  have h1 : gf_Inv.f 2 = some (142, true) := by
    have := gfInv_eq 2#8
    rw [show ofB 2#8 = 2 from rfl, show inv 2#8 = 142#8 by decide +kernel] at this
    exact this
  have h2 : gf_Mul.f 2 128 = some 29 := by
    have := gfMul_eq 2#8 128#8
    rw [show mul 2#8 128#8 = 29#8 by decide +kernel] at this
    exact this
  have h3 : gf_Add.f 3 5 = some 6 := by unfold gf_Add.f; decide +kernel
  rw [h1, h2, h3]
  rfl
theorem GfMuls : mooringlaw01_GfMuls.Pure := by
  intro a0 a1 w0 w1
  obtain ⟨a, rfl⟩ := byte_of w0
  obtain ⟨b, rfl⟩ := byte_of w1
  apply Ev.rounds
  refine Ev.congr (f := fun k => (mooringref01_Inv.f k (ofB a)).bind fun bt175 => ((gf_Div.f (ofB a) (ofB b)).bind fun bt177 => ((mooringref01_Div.f k (ofB a) (ofB b)).bind fun bt179 => ((mooringref01_Mul.f k (ofB a) (ofB b)).bind fun t183 => (if ofB (mul a b) = t183 then (if ofB (inv a) = bt175.1 then (if (decide (a ≠ 0#8) == bt175.2) = true then (if bt177.1 = bt179.1 then (if (bt177.2 == bt179.2) = true then some true else (some false)) else (some false)) else (some false)) else (some false)) else (some false)))))) (fun k => ?_) ?_
  · unfold mooringlaw01_GfMuls.f
    rw [gfInv_eq, gfMul_eq, awake1]
    simp only [Option.bind_some]
    rw [show gf_Add.f (ofB a) (ofB b) = some (Go.bits .xor .u8 (ofB a) (ofB b)) from rfl]
    simp only [Option.bind_some, if_true]
  · refine Ev.bind (refInv a) ?_
    simp only [gfDiv_eq, Option.bind_some]
    refine Ev.bind (refDiv a b) ?_
    refine Ev.bind (refMul a b) ?_
    simp only [if_true, beq_self_eq_true]
    exact Ev.now _
end Go.Proofs.Ytbogmlckbkogiaa.Pure
