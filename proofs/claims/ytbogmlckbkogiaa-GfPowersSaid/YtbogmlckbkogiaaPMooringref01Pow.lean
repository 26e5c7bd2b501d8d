-- Printed by a wrapper (wip/tools/myprint.py) of the kit's print, with hand-written contracts as given leaves.
import Derived.Test.YtbogmlckbkogiaaP0
import Derived.Test.YtbogmlckbkogiaaPMooringref01Mul
import Derived.Test.YtbogmlckbkogiaaPMooringref01Inv
namespace Go.Proofs.Ytbogmlckbkogiaa.P
open Go.Proofs.Ytbogmlckbkogiaa.Leaf
open Go.RowKit Go.Proofs.YtbogmlckbkogiaaW.PrintWords Go.Proofs.YtbogmlckbkogiaaW.PrintLast Go.Proofs.YtbogmlckbkogiaaW.PrintMore
attribute [local go_sem] max2_int min2_int max_two min_two max_three min_three max_four min_four   -- for this text's walks alone
set_option linter.unusedVariables false
set_option linter.unusedSimpArgs false

/-! ### mooringref01_Pow: function 43 -/
mutual
def mooringref01_Pow.l0 : Nat → Int → Int → Int → Int → Option (Int × Bool)
  | 0, _, _, _, _ => none
  | k + 1, x0, x1, x8, x9 => if x9 < (Int.tmod x1 255) then ((mooringref01_Mul.f k x8 x0).bind fun t106 => (mooringref01_Pow.l0 k x0 x1 t106 (wrap64 (x9 + 1)))) else (some (x8, true))
def mooringref01_Pow.f : Nat → Int → Int → Option (Int × Bool)
  | 0, _, _ => none
  | k + 1, a0, a1 => if a0 = 0 then (if a1 = 0 then (some (1, true)) else (some (0, decide (a1 > 0)))) else (if a1 < 0 then ((mooringref01_Inv.f k a0).bind fun bt101 => ((mooringref01_Pow.f k bt101.1 (wrap64 (-(wrap64 (a1 + 1))))).bind fun bt103 => ((mooringref01_Mul.f k bt103.1 bt101.1).bind fun t105 => (some (t105, true))))) else (mooringref01_Pow.l0 k a0 a1 1 0))
end
theorem mooringref01_Pow.mono_l : ∀ k, (∀ y0 y1, LeO (mooringref01_Pow.f k y0 y1) (mooringref01_Pow.f (k + 1) y0 y1)) ∧ (∀ y0 y1 y2 y3, LeO (mooringref01_Pow.l0 k y0 y1 y2 y3) (mooringref01_Pow.l0 (k + 1) y0 y1 y2 y3))
  | 0 => ⟨fun _ _ r h => by simp [mooringref01_Pow.f] at h, fun _ _ _ _ r h => by simp [mooringref01_Pow.l0] at h⟩
  | k + 1 => by
    obtain ⟨ih0, ih1⟩ := mooringref01_Pow.mono_l k
    refine ⟨?_, ?_⟩
    · intro y0 y1
      unfold mooringref01_Pow.f
      repeat' first
      | (with_reducible exact ih0 _ _)
      | (with_reducible exact ih1 _ _ _ _)
      | (with_reducible exact mooringref01_Inv.mono _ _)
      | (with_reducible exact mooringref01_Mul.mono _ _ _)
      | (with_reducible exact LeO.refl _)
      | (with_reducible exact LeO.none _)
      | (with_reducible refine LeO.ite ?_ ?_)
      | (with_reducible refine LeO.bind ?_ (fun _ => ?_))
      | exact ih0 _ _
      | exact ih1 _ _ _ _
      | exact mooringref01_Inv.mono _ _
      | exact mooringref01_Mul.mono _ _ _
      | exact LeO.none _
      | refine LeO.ite ?_ ?_
      | refine LeO.bind ?_ (fun _ => ?_)
    · intro y0 y1 y2 y3
      unfold mooringref01_Pow.l0
      repeat' first
      | (with_reducible exact ih0 _ _)
      | (with_reducible exact ih1 _ _ _ _)
      | (with_reducible exact mooringref01_Inv.mono _ _)
      | (with_reducible exact mooringref01_Mul.mono _ _ _)
      | (with_reducible exact LeO.refl _)
      | (with_reducible exact LeO.none _)
      | (with_reducible refine LeO.ite ?_ ?_)
      | (with_reducible refine LeO.bind ?_ (fun _ => ?_))
      | exact ih0 _ _
      | exact ih1 _ _ _ _
      | exact mooringref01_Inv.mono _ _
      | exact mooringref01_Mul.mono _ _ _
      | exact LeO.none _
      | refine LeO.ite ?_ ?_
      | refine LeO.bind ?_ (fun _ => ?_)
theorem mooringref01_Pow.mono : ∀ a0 a1 k, LeO (mooringref01_Pow.f k a0 a1) (mooringref01_Pow.f (k + 1) a0 a1) := by
  intro a0 a1 k
  obtain ⟨ih0, ih1⟩ := mooringref01_Pow.mono_l k
  exact ih0 a0 a1
set_option maxHeartbeats 8000000 in
set_option maxRecDepth 100000 in
theorem mooringref01_Pow.calls (k : Nat) : ∀ (a0 : Int) (a1 : Int) (r1 : Int) (r2 : Bool) (w : World) (h : mooringref01_Pow.f k a0 a1 = some (r1, r2)),
    Calls Try.prog 43 #[.int .u8 a0, .int .i64 a1] w fun e w' => e = .returned (.tuple #[.int .u8 r1, .bool r2]) ∧ Drawn0 w w' := by
  induction k using Nat.strongRecOn with
  | _ k ih =>
  intro a0 a1 r1 r2 w h
  cases k with
  | zero => exact absurd h (by simp [mooringref01_Pow.f])
  | succ k =>
  simp only [mooringref01_Pow.f] at h
  have H : (if a0 = 0 then (if a1 = 0 then (some (1, true)) else (some (0, decide (a1 > 0)))) else (if a1 < 0 then ((mooringref01_Inv.f k a0).bind fun bt101 => ((mooringref01_Pow.f k bt101.1 (wrap64 (-(wrap64 (a1 + 1))))).bind fun bt103 => ((mooringref01_Mul.f k bt103.1 bt101.1).bind fun t105 => (some (t105, true))))) else (mooringref01_Pow.l0 k a0 a1 1 0))) = some (r1, r2) := h
  clear h
  by_cases c3 : a0 = 0
  · rw [if_pos c3] at H
    have c3b0 : (a0 == 0) = true := beq_iff_eq.mpr c3
    have c3b1 : (a0 != 0) = false := bne_eq_false_iff_eq.mpr c3
    clear c3
    by_cases c4 : a1 = 0
    · rw [if_pos c4] at H
      have c4b0 : (a1 == 0) = true := beq_iff_eq.mpr c4
      have c4b1 : (a1 != 0) = false := bne_eq_false_iff_eq.mpr c4
      clear c4
      simp only [Option.some.injEq, Prod.mk.injEq] at H
      obtain ⟨rfl, rfl⟩ := H
      go_enter Try.func43, Try.ntmps43
      go_wp2
      go_ret2
      exact ⟨by first | rfl | (simp; done) | (simp [*]; done), by repeat (first | exact Drawn0.refl _ | apply Drawn0.step)⟩
    · rw [if_neg c4] at H
      have c4b0 : (a1 == 0) = false := beq_eq_false_iff_ne.mpr c4
      have c4b1 : (a1 != 0) = true := bne_iff_ne.mpr c4
      simp only [Option.some.injEq, Prod.mk.injEq] at H
      obtain ⟨rfl, rfl⟩ := H
      go_enter Try.func43, Try.ntmps43
      go_wp2
      go_ret2
      exact ⟨by first | rfl | (simp; done) | (simp [*]; done), by repeat (first | exact Drawn0.refl _ | apply Drawn0.step)⟩
  · rw [if_neg c3] at H
    have c3b0 : (a0 == 0) = false := beq_eq_false_iff_ne.mpr c3
    have c3b1 : (a0 != 0) = true := bne_iff_ne.mpr c3
    by_cases c5 : a1 < 0
    · rw [if_pos c5] at H
      have c5b0 : decide (a1 < 0) = true := decide_eq_true c5
      clear c5
      replace H := Option.bind_eq_some_iff.mp H
      obtain ⟨⟨t101, t102⟩, A60, H⟩ := H
      replace H : ((mooringref01_Pow.f k t101 (wrap64 (-(wrap64 (a1 + 1))))).bind fun bt103 => ((mooringref01_Mul.f k bt103.1 t101).bind fun t105 => (some (t105, true)))) = some (r1, r2) := H
      have A6 := Aside0.mk A60
      clear A60
      replace H := Option.bind_eq_some_iff.mp H
      obtain ⟨⟨t103, t104⟩, A70, H⟩ := H
      replace H : ((mooringref01_Mul.f k t103 t101).bind fun t105 => (some (t105, true))) = some (r1, r2) := H
      have A7 := Aside0.mk A70
      clear A70
      replace H := Option.bind_eq_some_iff.mp H
      obtain ⟨t105, A80, H⟩ := H
      replace H : (some (t105, true)) = some (r1, r2) := H
      have A8 := Aside0.mk A80
      clear A80
      simp only [Option.some.injEq, Prod.mk.injEq] at H
      obtain ⟨rfl, rfl⟩ := H
      go_enter Try.func43, Try.ntmps43
      go_wp2_with (first | ((with_reducible refine gate_callee (f := 35) rfl ?_); refine goesL_ (some 20) rfl rfl Try.func35 (by kernel_rfl) rfl #[.int .u8 a0] rfl (by (try simp only [List.map_toArray, List.map_cons, List.map_nil]); first | done | rfl | (simp only [List.length_drop, List.length_take]; rfl)) ?_; (with_reducible refine (mooringref01_Inv.calls k a0 t101 t102 _ A6.out).mono ?_); rintro e w' ⟨rfl, ⟨nd, rfl⟩⟩; refine ⟨_, rfl, ?_⟩) | ((with_reducible refine gate_callee (f := 43) rfl ?_); refine goesL_ (some 29) rfl rfl Try.func43 (by kernel_rfl) rfl #[.int .u8 t101, .int .i64 (wrap64 (-(wrap64 (a1 + 1))))] rfl (by (try simp only [List.map_toArray, List.map_cons, List.map_nil]); first | done | rfl | (simp only [List.length_drop, List.length_take]; rfl)) ?_; (with_reducible refine (ih k (by omega) t101 (wrap64 (-(wrap64 (a1 + 1)))) t103 t104 _ A7.out).mono ?_); rintro e w' ⟨rfl, ⟨nd, rfl⟩⟩; refine ⟨_, rfl, ?_⟩) | ((with_reducible refine gate_callee (f := 38) rfl ?_); refine goesL_ (some 34) rfl rfl Try.func38 (by kernel_rfl) rfl #[.int .u8 t103, .int .u8 t101] rfl (by (try simp only [List.map_toArray, List.map_cons, List.map_nil]); first | done | rfl | (simp only [List.length_drop, List.length_take]; rfl)) ?_; (with_reducible refine (mooringref01_Mul.calls k t103 t101 t105 _ A8.out).mono ?_); rintro e w' ⟨rfl, ⟨nd, rfl⟩⟩; refine ⟨_, rfl, ?_⟩))
      go_ret2
      exact ⟨by first | rfl | (simp; done) | (simp [*]; done), by repeat (first | exact Drawn0.refl _ | apply Drawn0.step)⟩
    · rw [if_neg c5] at H
      have c5b0 : decide (a1 < 0) = false := decide_eq_false c5
      clear c5
      have H' := Aside0.mk H
      clear H
      go_enter Try.func43, Try.ntmps43
      go_wp2
      go_loopg [8, 9] k (fun kq v8 v9 w' => ∃ (x8_1 : Int) (x9_1 : Int), v8 = .int .u8 x8_1 ∧ v9 = .int .i64 x9_1 ∧ Aside0 (mooringref01_Pow.l0 kq a0 a1 x8_1 x9_1 = some (r1, r2)) ∧ Aside0 (kq ≤ k) ∧ Drawn0 w w')
      case atStart => exact ⟨(1), (0), (by first | rfl | (simp; done) | (simp [*]; done)), (by first | rfl | (simp; done) | (simp [*]; done)), H', ⟨Nat.le_refl _⟩, by repeat (first | exact Drawn0.refl _ | apply Drawn0.step)⟩
      case round =>
        clear H'
        try clear p2
        try clear c3
        try clear c3b0
        try clear c3b1
        try clear c4
        try clear c4b0
        try clear c4b1
        try clear c5
        try clear c5b0
        try clear p6
        obtain ⟨x8_1, x9_1, rfl, rfl, HA, HK1, ⟨m1, rfl⟩⟩ := hrel
        cases gk with
        | zero => exact absurd HA.out (by simp [mooringref01_Pow.l0])
        | succ k1 =>
          have H := HA.out
          clear HA
          simp only [mooringref01_Pow.l0] at H
          by_cases c9 : x9_1 < (Int.tmod a1 255)
          · rw [if_pos c9] at H
            have c9b0 : decide (x9_1 < (Int.tmod a1 255)) = true := decide_eq_true c9
            clear c9
            replace H := Option.bind_eq_some_iff.mp H
            obtain ⟨t106, A100, H⟩ := H
            replace H : (mooringref01_Pow.l0 k1 a0 a1 t106 (wrap64 (x9_1 + 1))) = some (r1, r2) := H
            have A10 := Aside0.mk A100
            clear A100
            have H' := Aside0.mk H
            clear H
            go_wp2_with (first | ((with_reducible refine gate_callee (f := 38) rfl ?_); refine goesL_ (some 43) rfl rfl Try.func38 (by kernel_rfl) rfl #[.int .u8 x8_1, .int .u8 a0] rfl (by (try simp only [List.map_toArray, List.map_cons, List.map_nil]); first | done | rfl | (simp only [List.length_drop, List.length_take]; rfl)) ?_; (with_reducible refine (mooringref01_Mul.calls k1 x8_1 a0 t106 _ A10.out).mono ?_); rintro e w' ⟨rfl, ⟨nd, rfl⟩⟩; refine ⟨_, rfl, ?_⟩))
            go_roundg k1
            case measure => have := HK1.out; omega
            case rel => exact ⟨(t106), (wrap64 (x9_1 + 1)), (by first | rfl | (simp; done) | (simp [*]; done)), (by first | rfl | (simp; done) | (simp [*]; done)), H', ⟨by have := HK1.out; omega⟩, by repeat (first | exact Drawn0.refl _ | apply Drawn0.step)⟩
          · rw [if_neg c9] at H
            have c9b0 : decide (x9_1 < (Int.tmod a1 255)) = false := decide_eq_false c9
            clear c9
            simp only [Option.some.injEq, Prod.mk.injEq] at H
            obtain ⟨rfl, rfl⟩ := H
            go_wp2
            go_ret2
            exact ⟨by first | rfl | (simp; done) | (simp [*]; done), by repeat (first | exact Drawn0.refl _ | apply Drawn0.step)⟩

end Go.Proofs.Ytbogmlckbkogiaa.P
