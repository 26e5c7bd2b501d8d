/- For any byte and any int gf.Pow, gf.Log and gf.Exp of the program answer as the reference's (the law GfPowers answers true). Conditions: none. -/
import Derived.Test.YtbogmlckbkogiaaPureGfMuls
import Derived.Test.YtbogmlckbkogiaaGfc
import Derived.Test.YtbogmlckbkogiaaPMooringlaw01GfPowers
namespace Go.Proofs.Ytbogmlckbkogiaa.Pure
open Go.RowKit Go.Proofs.YtbogmlckbkogiaaW.PrintWords Go.Proofs.Ytbogmlckbkogiaa.Leaf Go.Proofs.Ytbogmlckbkogiaa.P Go.Proofs.Ytbogmlckbkogiaa.Gf
theorem int_of {a : Int} (h : (Lit.int .i64 a).wf = true) : -9223372036854775808 ≤ a ∧ a ≤ 9223372036854775807 := by
  simpa [Lit.wf, IntKind.min, IntKind.max, IntKind.signed, IntKind.bits] using h
theorem GfPowers : mooringlaw01_GfPowers.Pure := by
  intro a0 n w0 w1
  obtain ⟨a, rfl⟩ := byte_of w0
  have hn := int_of w1
  apply Ev.rounds
  unfold mooringlaw01_GfPowers.f
  simp only [gfPow_eq, gfExp_eq, gfLog_all, awake1, Option.bind_some]
  refine Ev.bind (refPow a n hn) ?_
  refine Ev.bind (refLog a) ?_
  simp only [if_true, beq_self_eq_true]
  refine Ev.bind (refExp n hn) ?_
  simp only [if_true]
  exact Ev.now _
end Go.Proofs.Ytbogmlckbkogiaa.Pure
