import Derived.Test.YtbogmlckbkogiaaPSumAppend
import Derived.Test.YtbogmlckbkogiaaPMooringref04Append
import Derived.Deep.RegionHeld3
namespace Go.Proofs.Ytbogmlckbkogiaa.H
open Go.RowKit Go.Proofs.YtbogmlckbkogiaaW.PrintWords Go.Proofs.YtbogmlckbkogiaaW.PrintLast Go.Proofs.Ytbogmlckbkogiaa.Leaf Go.Proofs.Ytbogmlckbkogiaa.P
set_option linter.unusedVariables false
set_option linter.unusedSimpArgs false
/-- The text of bytes, as a string's letters. -/
def tx (l : List Int) : List UInt8 := (strOfNums l).toList
theorem str_of (W : World) (A : Option Addr) (c : Nat) (l : List Int) (h : Kd.C (Kd.int .u8) W A l.length l) : (Go.convert 22 9 (.slice A l.length c)).run Try.prog W = .ok (.string (strOfNums l)) W :=
  Kd.C_string Try.underlying22 Try.underlying5 Try.underlying9 h
def sum_Strip.f (l0 : List Int) : Option (List Int × Bool) :=
  if l0.length < 4 then some ([], false) else
  (sum_Append.f (l0.take (l0.length - 4))).bind fun t => if (strOfNums t).toList = (strOfNums l0).toList then (slices_Clone_byte_byte.f (l0.take (l0.length - 4))).bind fun u => some (u, true) else some ([], false)
theorem take_facts (A : Option Addr) (c : Nat) (l : List Int) (m : Nat) (hm : m ≤ l.length) (hc : l.length ≤ c) : (∀ W : World, (Instr.slice 22 (.slice A l.length c) none (some (.int .i64 (m : Int))) none).run Try.prog W = .ok (.slice A (l.take m).length c) W) ∧
    (∀ w : World, Kd.C (Kd.int .u8) w A l.length l → Kd.C (Kd.int .u8) w A (l.take m).length (l.take m)) ∧ (l.take m).length ≤ c := by
  obtain ⟨i0, hi, hz⟩ := Option.map_eq_some_iff.1 info5
  simp only [Prod.mk.injEq] at hz
  have h := print_take_int (k := .u8) (P := Try.prog) 22 5 Try.underlying22 hi hz.2.1 A c l (m : Int) (by omega) (by omega) hc
  exact ⟨h.1, fun w hw => Kd.C_take hw hm, h.2.2⟩
set_option maxHeartbeats 4000000 in
set_option maxRecDepth 100000 in
theorem sum_Strip.calls (A0 : Option Addr) (c0 : Nat) (l0 : List Int) (r1 : List Int) (r2 : Bool) (w : World) (hr0 : Kd.C (Kd.int .u8) w A0 l0.length l0) (hc0 : l0.length ≤ c0) (h : sum_Strip.f l0 = some (r1, r2)) :
    Calls Try.prog 40 #[.slice A0 l0.length c0] w fun e w' => ∃ v0_ : Value, e = .returned (.tuple #[v0_, .bool r2]) ∧ Kd.R (Kd.int .u8) 5 w' w.heap.size (fun _ => True) v0_ r1 ∧ Below w.heap.size w w' := by
  unfold sum_Strip.f at h
  have hl : l0.length ≤ 9223372036854775807 := hr0.2.1
  by_cases h4 : l0.length < 4
  · rw [if_pos h4] at h
    obtain ⟨rfl, rfl⟩ : [] = r1 ∧ false = r2 := by simpa using h
    have hw : IntKind.i64.wrap ((l0.length : Int) - 4) = (l0.length : Int) - 4 := IntWalk.i64_in _ (by omega)
    have ht : decide ((l0.length : Int) - 4 < 0) = true := decide_eq_true (by omega)
    have ht2 : decide ((l0.length : Int) < 4) = true := decide_eq_true (by omega)
    clear h hr0
    go_enter Try.func40, Try.ntmps40
    go_wp2_with fail
    go_quiet (fail)
    go_wp2
    go_ret2
    exact ⟨_, rfl, Kd.R_nil _ _ _ _ _, (Drawn0.step (Drawn0.refl w) _).below⟩
  · rw [if_neg h4] at h
    obtain ⟨t, ht, h⟩ := Option.bind_eq_some_iff.1 h
    have hw : IntKind.i64.wrap ((l0.length : Int) - 4) = (l0.length : Int) - 4 := IntWalk.i64_in _ (by omega)
    have htt : decide ((l0.length : Int) - 4 < 0) = false := decide_eq_false (by omega)
    have ht2 : decide ((l0.length : Int) < 4) = false := decide_eq_false (by omega)
    obtain ⟨s1, s2, s3⟩ := take_facts A0 c0 l0 (l0.length - 4) (by omega) hc0
    rw [show ((l0.length - 4 : Nat) : Int) = (l0.length : Int) - 4 by omega] at s1
    have hT := s2 w hr0
    have hT2 := Aside0.mk s2
    clear s2
    generalize l0.take (l0.length - 4) = T at *
    have happ : Aside0 (∀ W, Below w.heap.size w W → Calls Try.prog 39 #[.slice A0 T.length c0] W fun e w' => ∃ A2 c2, e = .returned (.slice A2 t.length c2) ∧ (Go.convert 22 9 (.slice A2 t.length c2)).run Try.prog w' = .ok (.string (strOfNums t)) w' ∧ Below w.heap.size w w') :=
      ⟨fun W hB => (sum_Append.calls A0 c0 T t W (Kd.C_below hT hB) s3 ht).mono fun e w' ⟨v, he, ho, hb⟩ => by
        obtain ⟨A2, c2, rfl, _, hC⟩ := Kd.R_reads ho
        exact ⟨A2, c2, he, str_of _ _ c2 t hC, below_step hB hb⟩⟩
    have hcl : Aside0 (∀ W u, Below w.heap.size w W → slices_Clone_byte_byte.f T = some u → Calls Try.prog 89 #[.slice A0 T.length c0] W fun e w' => ∃ v, e = .returned v ∧ Kd.R (Kd.int .u8) 5 w' w.heap.size (fun _ => True) v u ∧ Below w.heap.size w w') :=
      ⟨fun W u hB hu => (slices_Clone_byte_byte.calls A0 c0 T u W (Kd.C_below hT hB) s3 hu).mono fun e w' ⟨v, he, ho, hb⟩ => ⟨v, he, Kd.R_lower ho (below_size hB), below_step hB hb⟩⟩
    have hcv0 : Aside0 (∀ W, Below w.heap.size w W → Below w.heap.size w W ∧ (Go.convert 22 9 (.slice A0 l0.length c0)).run Try.prog W = .ok (.string (strOfNums l0)) W) := ⟨fun W hB => ⟨hB, str_of W A0 c0 l0 (Kd.C_below hr0 hB)⟩⟩
    have hcd := (hcv0.out _ (Below.refl _ _).drew).2
    by_cases he : (strOfNums t).toList = (strOfNums l0).toList
    · rw [if_pos he] at h
      obtain ⟨u, hu, h⟩ := Option.bind_eq_some_iff.1 h
      obtain ⟨rfl, rfl⟩ : u = r1 ∧ true = r2 := by simpa using h
      have hcl' := Aside0.mk (fun W hB => hcl.out W u hB hu)
      have e1 : ((strOfNums t).toList == (strOfNums l0).toList) = true := by simp [he]
      clear h hr0 hT hT2 ht hu hcl he h4
      go_enter Try.func40, Try.ntmps40
      go_wp2_with fail
      go_region_with (first | (go_at_call 39; refine (happ.out _ (by first | exact Below.refl _ _ | exact (Below.refl _ _).drew | assumption)).mono ?_; rintro e w' ⟨A2, c2, rfl, hcv, hb⟩; have hcw := (hcv0.out _ hb).2))
      all_goals
        clear happ hcv0
        have hb1 := Aside0.mk hb
        clear hb hcv hcw hcd
        go_wp2_with (go_at_call 89; refine (hcl'.out _ hb1.out).mono ?_; rintro e w' ⟨v, rfl, ho, hb⟩)
        go_ret2
        exact ⟨_, rfl, ho, hb⟩
    · rw [if_neg he] at h
      obtain ⟨rfl, rfl⟩ : [] = r1 ∧ false = r2 := by simpa using h
      have e1 : ((strOfNums t).toList == (strOfNums l0).toList) = false := by simp [he]
      clear h hr0 hT hT2 ht hcl he h4
      go_enter Try.func40, Try.ntmps40
      go_wp2_with fail
      go_region_with (first | (go_at_call 39; refine (happ.out _ (by first | exact Below.refl _ _ | exact (Below.refl _ _).drew | assumption)).mono ?_; rintro e w' ⟨A2, c2, rfl, hcv, hb⟩; have hcw := (hcv0.out _ hb).2))
      all_goals
        clear happ hcv0
        have hb1 := Aside0.mk hb
        clear hb hcv hcw hcd
        go_wp2
        go_ret2
        exact ⟨_, rfl, Kd.R_nil _ _ _ _ _, hb1.out⟩
end Go.Proofs.Ytbogmlckbkogiaa.H
