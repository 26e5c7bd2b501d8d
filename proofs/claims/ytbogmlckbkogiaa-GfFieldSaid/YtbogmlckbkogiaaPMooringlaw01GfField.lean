-- Printed by a wrapper (wip/tools/myprint.py) of the kit's print, with hand-written contracts as given leaves.
import Derived.Test.YtbogmlckbkogiaaP0
import Derived.Test.YtbogmlckbkogiaaPGfAdd
import Derived.Test.YtbogmlckbkogiaaPMooringlaw01Awake
namespace Go.Proofs.Ytbogmlckbkogiaa.P
open Go.Proofs.Ytbogmlckbkogiaa.Leaf
open Go.RowKit Go.Proofs.YtbogmlckbkogiaaW.PrintWords Go.Proofs.YtbogmlckbkogiaaW.PrintLast Go.Proofs.YtbogmlckbkogiaaW.PrintMore
attribute [local go_sem] max2_int min2_int max_two min_two max_three min_three max_four min_four   -- for this text's walks alone
set_option linter.unusedVariables false
set_option linter.unusedSimpArgs false

/-! ### mooringlaw01_GfField: function 4 -/
mutual
def mooringlaw01_GfField.j0 : Nat → Int → Bool → Option (Bool)
  | 0, _, _ => none
  | k + 1, x0, x56 => if x56 = true then (some false) else ((gf_Inv.f x0).bind fun bt114 => ((gf_Log.f x0).bind fun bt116 => (if (bt114.2 != (x0 != 0)) = true then (mooringlaw01_GfField.j1 k x0 bt114.1 bt114.2 bt116.1 true) else (mooringlaw01_GfField.j1 k x0 bt114.1 bt114.2 bt116.1 (bt116.2 != bt114.2)))))
def mooringlaw01_GfField.j1 : Nat → Int → Int → Bool → Int → Bool → Option (Bool)
  | 0, _, _, _, _, _ => none
  | k + 1, x0, x7, x8, x9, x75 => if x75 = true then (some false) else (if x8 = true then ((gf_Mul.f x0 x7).bind fun t118 => (if t118 = 1 then ((gf_Exp.f x9).bind fun t119 => (if t119 = x0 then ((mooringlaw01_awake.f).bind fun t120 => (some t120)) else (some false))) else (some false))) else ((mooringlaw01_awake.f).bind fun t121 => (some t121)))
end
def mooringlaw01_GfField.f (k : Nat) (a0 : Int) (a1 : Int) (a2 : Int) : Option (Bool) := (gf_Mul.f a0 a1).bind fun t101 => ((gf_Mul.f a1 a0).bind fun t102 => (if t101 = t102 then ((gf_Mul.f a0 a1).bind fun t103 => ((gf_Mul.f t103 a2).bind fun t104 => ((gf_Mul.f a1 a2).bind fun t105 => ((gf_Mul.f a0 t105).bind fun t106 => (if t104 = t106 then ((gf_Add.f a1 a2).bind fun t107 => ((gf_Mul.f a0 t107).bind fun t108 => ((gf_Mul.f a0 a1).bind fun t109 => ((gf_Mul.f a0 a2).bind fun t110 => ((gf_Add.f t109 t110).bind fun t111 => (if t108 = t111 then ((gf_Mul.f a0 1).bind fun t112 => (if t112 = a0 then ((gf_Mul.f a0 0).bind fun t113 => (mooringlaw01_GfField.j0 k a0 (t113 != 0))) else (mooringlaw01_GfField.j0 k a0 true))) else (mooringlaw01_GfField.j0 k a0 true))))))) else (mooringlaw01_GfField.j0 k a0 true)))))) else (mooringlaw01_GfField.j0 k a0 true)))
theorem mooringlaw01_GfField.mono_l : ∀ k, (∀ y0 y1, LeO (mooringlaw01_GfField.j0 k y0 y1) (mooringlaw01_GfField.j0 (k + 1) y0 y1)) ∧ (∀ y0 y1 y2 y3 y4, LeO (mooringlaw01_GfField.j1 k y0 y1 y2 y3 y4) (mooringlaw01_GfField.j1 (k + 1) y0 y1 y2 y3 y4))
  | 0 => ⟨fun _ _ r h => by simp [mooringlaw01_GfField.j0] at h, fun _ _ _ _ _ r h => by simp [mooringlaw01_GfField.j1] at h⟩
  | k + 1 => by
    obtain ⟨ih0, ih1⟩ := mooringlaw01_GfField.mono_l k
    refine ⟨?_, ?_⟩
    · intro y0 y1
      unfold mooringlaw01_GfField.j0
      repeat' first
      | (with_reducible exact ih0 _ _)
      | (with_reducible exact ih1 _ _ _ _ _)
      | (with_reducible exact LeO.refl _)
      | (with_reducible exact LeO.none _)
      | (with_reducible refine LeO.ite ?_ ?_)
      | (with_reducible refine LeO.bind ?_ (fun _ => ?_))
      | exact ih0 _ _
      | exact ih1 _ _ _ _ _
      | exact LeO.none _
      | refine LeO.ite ?_ ?_
      | refine LeO.bind ?_ (fun _ => ?_)
    · intro y0 y1 y2 y3 y4
      unfold mooringlaw01_GfField.j1
      repeat' first
      | (with_reducible exact ih0 _ _)
      | (with_reducible exact ih1 _ _ _ _ _)
      | (with_reducible exact LeO.refl _)
      | (with_reducible exact LeO.none _)
      | (with_reducible refine LeO.ite ?_ ?_)
      | (with_reducible refine LeO.bind ?_ (fun _ => ?_))
      | exact ih0 _ _
      | exact ih1 _ _ _ _ _
      | exact LeO.none _
      | refine LeO.ite ?_ ?_
      | refine LeO.bind ?_ (fun _ => ?_)
theorem mooringlaw01_GfField.mono : ∀ a0 a1 a2 k, LeO (mooringlaw01_GfField.f k a0 a1 a2) (mooringlaw01_GfField.f (k + 1) a0 a1 a2) := by
  intro a0 a1 a2 k
  obtain ⟨ih0, ih1⟩ := mooringlaw01_GfField.mono_l k
  unfold mooringlaw01_GfField.f
  repeat' first
      | (with_reducible exact ih0 _ _)
      | (with_reducible exact ih1 _ _ _ _ _)
      | (with_reducible exact LeO.refl _)
      | (with_reducible exact LeO.none _)
      | (with_reducible refine LeO.ite ?_ ?_)
      | (with_reducible refine LeO.bind ?_ (fun _ => ?_))
      | exact ih0 _ _
      | exact ih1 _ _ _ _ _
      | exact LeO.none _
      | refine LeO.ite ?_ ?_
      | refine LeO.bind ?_ (fun _ => ?_)
set_option maxHeartbeats 8000000 in
set_option maxRecDepth 100000 in
theorem mooringlaw01_GfField.calls (k : Nat) (a0 : Int) (a1 : Int) (a2 : Int) (r : Bool) (w : World) (h : mooringlaw01_GfField.f k a0 a1 a2 = some r) :
    Calls Try.prog 4 #[.int .u8 a0, .int .u8 a1, .int .u8 a2] w fun e w' => e = .returned (.bool r) ∧ Below w.heap.size w w' := by
  have HB := Aside0.mk (Below.refl w.heap.size w)
  have H : ((gf_Mul.f a0 a1).bind fun t101 => ((gf_Mul.f a1 a0).bind fun t102 => (if t101 = t102 then ((gf_Mul.f a0 a1).bind fun t103 => ((gf_Mul.f t103 a2).bind fun t104 => ((gf_Mul.f a1 a2).bind fun t105 => ((gf_Mul.f a0 t105).bind fun t106 => (if t104 = t106 then ((gf_Add.f a1 a2).bind fun t107 => ((gf_Mul.f a0 t107).bind fun t108 => ((gf_Mul.f a0 a1).bind fun t109 => ((gf_Mul.f a0 a2).bind fun t110 => ((gf_Add.f t109 t110).bind fun t111 => (if t108 = t111 then ((gf_Mul.f a0 1).bind fun t112 => (if t112 = a0 then ((gf_Mul.f a0 0).bind fun t113 => (mooringlaw01_GfField.j0 k a0 (t113 != 0))) else (mooringlaw01_GfField.j0 k a0 true))) else (mooringlaw01_GfField.j0 k a0 true))))))) else (mooringlaw01_GfField.j0 k a0 true)))))) else (mooringlaw01_GfField.j0 k a0 true)))) = some r := h
  clear h
  have HC4 := Aside0.mk H
  clear H
  go_enter Try.func4, Try.ntmps4
  go_upto_region 1 with (fail)
  go_cut [56] (fun v56 wc => ∃ (kq : Nat) (x56_3 : Bool), v56 = .bool x56_3 ∧ Aside0 (mooringlaw01_GfField.j0 kq a0 x56_3 = some r) ∧ Aside0 (kq ≤ k) ∧ Aside0 (Below w.heap.size w wc))
  case first =>
    have H := HC4.out
    clear HC4
    replace H := Option.bind_eq_some_iff.mp H
    obtain ⟨t101, A50, H⟩ := H
    replace H : ((gf_Mul.f a1 a0).bind fun t102 => (if t101 = t102 then ((gf_Mul.f a0 a1).bind fun t103 => ((gf_Mul.f t103 a2).bind fun t104 => ((gf_Mul.f a1 a2).bind fun t105 => ((gf_Mul.f a0 t105).bind fun t106 => (if t104 = t106 then ((gf_Add.f a1 a2).bind fun t107 => ((gf_Mul.f a0 t107).bind fun t108 => ((gf_Mul.f a0 a1).bind fun t109 => ((gf_Mul.f a0 a2).bind fun t110 => ((gf_Add.f t109 t110).bind fun t111 => (if t108 = t111 then ((gf_Mul.f a0 1).bind fun t112 => (if t112 = a0 then ((gf_Mul.f a0 0).bind fun t113 => (mooringlaw01_GfField.j0 k a0 (t113 != 0))) else (mooringlaw01_GfField.j0 k a0 true))) else (mooringlaw01_GfField.j0 k a0 true))))))) else (mooringlaw01_GfField.j0 k a0 true)))))) else (mooringlaw01_GfField.j0 k a0 true))) = some r := H
    have A5 := Aside0.mk A50
    clear A50
    replace H := Option.bind_eq_some_iff.mp H
    obtain ⟨t102, A60, H⟩ := H
    replace H : (if t101 = t102 then ((gf_Mul.f a0 a1).bind fun t103 => ((gf_Mul.f t103 a2).bind fun t104 => ((gf_Mul.f a1 a2).bind fun t105 => ((gf_Mul.f a0 t105).bind fun t106 => (if t104 = t106 then ((gf_Add.f a1 a2).bind fun t107 => ((gf_Mul.f a0 t107).bind fun t108 => ((gf_Mul.f a0 a1).bind fun t109 => ((gf_Mul.f a0 a2).bind fun t110 => ((gf_Add.f t109 t110).bind fun t111 => (if t108 = t111 then ((gf_Mul.f a0 1).bind fun t112 => (if t112 = a0 then ((gf_Mul.f a0 0).bind fun t113 => (mooringlaw01_GfField.j0 k a0 (t113 != 0))) else (mooringlaw01_GfField.j0 k a0 true))) else (mooringlaw01_GfField.j0 k a0 true))))))) else (mooringlaw01_GfField.j0 k a0 true)))))) else (mooringlaw01_GfField.j0 k a0 true)) = some r := H
    have A6 := Aside0.mk A60
    clear A60
    by_cases c7 : t101 = t102
    · rw [if_pos c7] at H
      have c7b0 : (t101 == t102) = true := beq_iff_eq.mpr c7
      have c7b1 : (t101 != t102) = false := bne_eq_false_iff_eq.mpr c7
      clear c7
      (first | rw [c7b0] | (simp only [i64_w, i32_w]; rw [c7b0]) | skip)
      replace H := Option.bind_eq_some_iff.mp H
      obtain ⟨t103, A80, H⟩ := H
      obtain rfl := Option.some.inj (A5.out.symm.trans A80)
      replace H : ((gf_Mul.f t101 a2).bind fun t104 => ((gf_Mul.f a1 a2).bind fun t105 => ((gf_Mul.f a0 t105).bind fun t106 => (if t104 = t106 then ((gf_Add.f a1 a2).bind fun t107 => ((gf_Mul.f a0 t107).bind fun t108 => ((gf_Mul.f a0 a1).bind fun t109 => ((gf_Mul.f a0 a2).bind fun t110 => ((gf_Add.f t109 t110).bind fun t111 => (if t108 = t111 then ((gf_Mul.f a0 1).bind fun t112 => (if t112 = a0 then ((gf_Mul.f a0 0).bind fun t113 => (mooringlaw01_GfField.j0 k a0 (t113 != 0))) else (mooringlaw01_GfField.j0 k a0 true))) else (mooringlaw01_GfField.j0 k a0 true))))))) else (mooringlaw01_GfField.j0 k a0 true))))) = some r := H
      have A8 := Aside0.mk A80
      clear A80
      replace H := Option.bind_eq_some_iff.mp H
      obtain ⟨t104, A90, H⟩ := H
      replace H : ((gf_Mul.f a1 a2).bind fun t105 => ((gf_Mul.f a0 t105).bind fun t106 => (if t104 = t106 then ((gf_Add.f a1 a2).bind fun t107 => ((gf_Mul.f a0 t107).bind fun t108 => ((gf_Mul.f a0 a1).bind fun t109 => ((gf_Mul.f a0 a2).bind fun t110 => ((gf_Add.f t109 t110).bind fun t111 => (if t108 = t111 then ((gf_Mul.f a0 1).bind fun t112 => (if t112 = a0 then ((gf_Mul.f a0 0).bind fun t113 => (mooringlaw01_GfField.j0 k a0 (t113 != 0))) else (mooringlaw01_GfField.j0 k a0 true))) else (mooringlaw01_GfField.j0 k a0 true))))))) else (mooringlaw01_GfField.j0 k a0 true)))) = some r := H
      have A9 := Aside0.mk A90
      clear A90
      replace H := Option.bind_eq_some_iff.mp H
      obtain ⟨t105, A100, H⟩ := H
      replace H : ((gf_Mul.f a0 t105).bind fun t106 => (if t104 = t106 then ((gf_Add.f a1 a2).bind fun t107 => ((gf_Mul.f a0 t107).bind fun t108 => ((gf_Mul.f a0 a1).bind fun t109 => ((gf_Mul.f a0 a2).bind fun t110 => ((gf_Add.f t109 t110).bind fun t111 => (if t108 = t111 then ((gf_Mul.f a0 1).bind fun t112 => (if t112 = a0 then ((gf_Mul.f a0 0).bind fun t113 => (mooringlaw01_GfField.j0 k a0 (t113 != 0))) else (mooringlaw01_GfField.j0 k a0 true))) else (mooringlaw01_GfField.j0 k a0 true))))))) else (mooringlaw01_GfField.j0 k a0 true))) = some r := H
      have A10 := Aside0.mk A100
      clear A100
      replace H := Option.bind_eq_some_iff.mp H
      obtain ⟨t106, A110, H⟩ := H
      replace H : (if t104 = t106 then ((gf_Add.f a1 a2).bind fun t107 => ((gf_Mul.f a0 t107).bind fun t108 => ((gf_Mul.f a0 a1).bind fun t109 => ((gf_Mul.f a0 a2).bind fun t110 => ((gf_Add.f t109 t110).bind fun t111 => (if t108 = t111 then ((gf_Mul.f a0 1).bind fun t112 => (if t112 = a0 then ((gf_Mul.f a0 0).bind fun t113 => (mooringlaw01_GfField.j0 k a0 (t113 != 0))) else (mooringlaw01_GfField.j0 k a0 true))) else (mooringlaw01_GfField.j0 k a0 true))))))) else (mooringlaw01_GfField.j0 k a0 true)) = some r := H
      have A11 := Aside0.mk A110
      clear A110
      by_cases c12 : t104 = t106
      · rw [if_pos c12] at H
        have c12b0 : (t104 == t106) = true := beq_iff_eq.mpr c12
        have c12b1 : (t104 != t106) = false := bne_eq_false_iff_eq.mpr c12
        clear c12
        replace H := Option.bind_eq_some_iff.mp H
        obtain ⟨t107, A130, H⟩ := H
        replace H : ((gf_Mul.f a0 t107).bind fun t108 => ((gf_Mul.f a0 a1).bind fun t109 => ((gf_Mul.f a0 a2).bind fun t110 => ((gf_Add.f t109 t110).bind fun t111 => (if t108 = t111 then ((gf_Mul.f a0 1).bind fun t112 => (if t112 = a0 then ((gf_Mul.f a0 0).bind fun t113 => (mooringlaw01_GfField.j0 k a0 (t113 != 0))) else (mooringlaw01_GfField.j0 k a0 true))) else (mooringlaw01_GfField.j0 k a0 true)))))) = some r := H
        have A13 := Aside0.mk A130
        clear A130
        replace H := Option.bind_eq_some_iff.mp H
        obtain ⟨t108, A140, H⟩ := H
        replace H : ((gf_Mul.f a0 a1).bind fun t109 => ((gf_Mul.f a0 a2).bind fun t110 => ((gf_Add.f t109 t110).bind fun t111 => (if t108 = t111 then ((gf_Mul.f a0 1).bind fun t112 => (if t112 = a0 then ((gf_Mul.f a0 0).bind fun t113 => (mooringlaw01_GfField.j0 k a0 (t113 != 0))) else (mooringlaw01_GfField.j0 k a0 true))) else (mooringlaw01_GfField.j0 k a0 true))))) = some r := H
        have A14 := Aside0.mk A140
        clear A140
        replace H := Option.bind_eq_some_iff.mp H
        obtain ⟨t109, A150, H⟩ := H
        obtain rfl := Option.some.inj (A5.out.symm.trans A150)
        replace H : ((gf_Mul.f a0 a2).bind fun t110 => ((gf_Add.f t101 t110).bind fun t111 => (if t108 = t111 then ((gf_Mul.f a0 1).bind fun t112 => (if t112 = a0 then ((gf_Mul.f a0 0).bind fun t113 => (mooringlaw01_GfField.j0 k a0 (t113 != 0))) else (mooringlaw01_GfField.j0 k a0 true))) else (mooringlaw01_GfField.j0 k a0 true)))) = some r := H
        have A15 := Aside0.mk A150
        clear A150
        replace H := Option.bind_eq_some_iff.mp H
        obtain ⟨t110, A160, H⟩ := H
        replace H : ((gf_Add.f t101 t110).bind fun t111 => (if t108 = t111 then ((gf_Mul.f a0 1).bind fun t112 => (if t112 = a0 then ((gf_Mul.f a0 0).bind fun t113 => (mooringlaw01_GfField.j0 k a0 (t113 != 0))) else (mooringlaw01_GfField.j0 k a0 true))) else (mooringlaw01_GfField.j0 k a0 true))) = some r := H
        have A16 := Aside0.mk A160
        clear A160
        replace H := Option.bind_eq_some_iff.mp H
        obtain ⟨t111, A170, H⟩ := H
        replace H : (if t108 = t111 then ((gf_Mul.f a0 1).bind fun t112 => (if t112 = a0 then ((gf_Mul.f a0 0).bind fun t113 => (mooringlaw01_GfField.j0 k a0 (t113 != 0))) else (mooringlaw01_GfField.j0 k a0 true))) else (mooringlaw01_GfField.j0 k a0 true)) = some r := H
        have A17 := Aside0.mk A170
        clear A170
        by_cases c18 : t108 = t111
        · rw [if_pos c18] at H
          have c18b0 : (t108 == t111) = true := beq_iff_eq.mpr c18
          have c18b1 : (t108 != t111) = false := bne_eq_false_iff_eq.mpr c18
          clear c18
          replace H := Option.bind_eq_some_iff.mp H
          obtain ⟨t112, A190, H⟩ := H
          replace H : (if t112 = a0 then ((gf_Mul.f a0 0).bind fun t113 => (mooringlaw01_GfField.j0 k a0 (t113 != 0))) else (mooringlaw01_GfField.j0 k a0 true)) = some r := H
          have A19 := Aside0.mk A190
          clear A190
          by_cases c20 : t112 = a0
          · rw [if_pos c20] at H
            have c20b0 : (t112 == a0) = true := beq_iff_eq.mpr c20
            have c20b1 : (t112 != a0) = false := bne_eq_false_iff_eq.mpr c20
            clear c20
            replace H := Option.bind_eq_some_iff.mp H
            obtain ⟨t113, A210, H⟩ := H
            replace H : (mooringlaw01_GfField.j0 k a0 (t113 != 0)) = some r := H
            have A21 := Aside0.mk A210
            clear A210
            have H' := Aside0.mk H
            clear H
            go_wp2_with (first | ((with_reducible refine gate_callee (f := 26) rfl ?_); refine goesL_ (some 13) rfl rfl Try.func26 (by kernel_rfl) rfl #[.int .u8 a0, .int .u8 a1] rfl (by (try simp only [List.map_toArray, List.map_cons, List.map_nil]); first | done | rfl | (simp only [List.length_drop, List.length_take]; rfl)) ?_; (with_reducible refine (gf_Mul.calls a0 a1 t101 _ A5.out).mono ?_); rintro e w22 ⟨rfl, hb⟩; refine ⟨_, rfl, ?_⟩; have n0_ := Aside0.mk (below_step (by repeat (first | (with_reducible first | exact HB.out | apply below_alloc | apply pw_below_drewN | apply below_drew1) | exact HB.out)) hb); clear HB; have HB := n0_; clear n0_; (try clear hb); (try clear hb2); (try clear hk); (try clear hi)) | ((with_reducible refine gate_callee (f := 26) rfl ?_); refine goesL_ (some 16) rfl rfl Try.func26 (by kernel_rfl) rfl #[.int .u8 a1, .int .u8 a0] rfl (by (try simp only [List.map_toArray, List.map_cons, List.map_nil]); first | done | rfl | (simp only [List.length_drop, List.length_take]; rfl)) ?_; (with_reducible refine (gf_Mul.calls a1 a0 t102 _ A6.out).mono ?_); rintro e w23 ⟨rfl, hb⟩; refine ⟨_, rfl, ?_⟩; have n0_ := Aside0.mk (below_step (by repeat (first | (with_reducible first | exact HB.out | apply below_alloc | apply pw_below_drewN | apply below_drew1) | exact HB.out)) hb); clear HB; have HB := n0_; clear n0_; (try clear hb); (try clear hb2); (try clear hk); (try clear hi)) | (go_at_call 26; (with_reducible refine (gf_Mul.calls a0 a1 t101 _ A8.out).mono ?_); rintro e w24 ⟨rfl, hb⟩; have n0_ := Aside0.mk (below_step (by repeat (first | (with_reducible first | exact HB.out | apply below_alloc | apply pw_below_drewN | apply below_drew1) | exact HB.out)) hb); clear HB; have HB := n0_; clear n0_; (try clear hb); (try clear hb2); (try clear hk); (try clear hi)) | (go_at_call 26; (with_reducible refine (gf_Mul.calls t101 a2 t104 _ A9.out).mono ?_); rintro e w25 ⟨rfl, hb⟩; have n0_ := Aside0.mk (below_step (by repeat (first | (with_reducible first | exact HB.out | apply below_alloc | apply pw_below_drewN | apply below_drew1) | exact HB.out)) hb); clear HB; have HB := n0_; clear n0_; (try clear hb); (try clear hb2); (try clear hk); (try clear hi)) | (go_at_call 26; (with_reducible refine (gf_Mul.calls a1 a2 t105 _ A10.out).mono ?_); rintro e w26 ⟨rfl, hb⟩; have n0_ := Aside0.mk (below_step (by repeat (first | (with_reducible first | exact HB.out | apply below_alloc | apply pw_below_drewN | apply below_drew1) | exact HB.out)) hb); clear HB; have HB := n0_; clear n0_; (try clear hb); (try clear hb2); (try clear hk); (try clear hi)) | (go_at_call 26; (with_reducible refine (gf_Mul.calls a0 t105 t106 _ A11.out).mono ?_); rintro e w27 ⟨rfl, hb⟩; have n0_ := Aside0.mk (below_step (by repeat (first | (with_reducible first | exact HB.out | apply below_alloc | apply pw_below_drewN | apply below_drew1) | exact HB.out)) hb); clear HB; have HB := n0_; clear n0_; (try clear hb); (try clear hb2); (try clear hk); (try clear hi)) | (go_at_call 27; (with_reducible refine (gf_Add.calls a1 a2 t107 _ A13.out).mono ?_); rintro e w' ⟨rfl, ⟨nd, rfl⟩⟩) | (go_at_call 26; (with_reducible refine (gf_Mul.calls a0 t107 t108 _ A14.out).mono ?_); rintro e w28 ⟨rfl, hb⟩; have n0_ := Aside0.mk (below_step (by repeat (first | (with_reducible first | exact HB.out | apply below_alloc | apply pw_below_drewN | apply below_drew1) | exact HB.out)) hb); clear HB; have HB := n0_; clear n0_; (try clear hb); (try clear hb2); (try clear hk); (try clear hi)) | (go_at_call 26; (with_reducible refine (gf_Mul.calls a0 a1 t101 _ A15.out).mono ?_); rintro e w29 ⟨rfl, hb⟩; have n0_ := Aside0.mk (below_step (by repeat (first | (with_reducible first | exact HB.out | apply below_alloc | apply pw_below_drewN | apply below_drew1) | exact HB.out)) hb); clear HB; have HB := n0_; clear n0_; (try clear hb); (try clear hb2); (try clear hk); (try clear hi)) | (go_at_call 26; (with_reducible refine (gf_Mul.calls a0 a2 t110 _ A16.out).mono ?_); rintro e w30 ⟨rfl, hb⟩; have n0_ := Aside0.mk (below_step (by repeat (first | (with_reducible first | exact HB.out | apply below_alloc | apply pw_below_drewN | apply below_drew1) | exact HB.out)) hb); clear HB; have HB := n0_; clear n0_; (try clear hb); (try clear hb2); (try clear hk); (try clear hi)) | (go_at_call 27; (with_reducible refine (gf_Add.calls t101 t110 t111 _ A17.out).mono ?_); rintro e w' ⟨rfl, ⟨nd, rfl⟩⟩) | (go_at_call 26; (with_reducible refine (gf_Mul.calls a0 1 t112 _ A19.out).mono ?_); rintro e w31 ⟨rfl, hb⟩; have n0_ := Aside0.mk (below_step (by repeat (first | (with_reducible first | exact HB.out | apply below_alloc | apply pw_below_drewN | apply below_drew1) | exact HB.out)) hb); clear HB; have HB := n0_; clear n0_; (try clear hb); (try clear hb2); (try clear hk); (try clear hi)) | (go_at_call 26; (with_reducible refine (gf_Mul.calls a0 0 t113 _ A21.out).mono ?_); rintro e w32 ⟨rfl, hb⟩; have n0_ := Aside0.mk (below_step (by repeat (first | (with_reducible first | exact HB.out | apply below_alloc | apply pw_below_drewN | apply below_drew1) | exact HB.out)) hb); clear HB; have HB := n0_; clear n0_; (try clear hb); (try clear hb2); (try clear hk); (try clear hi)))
            go_meet
            case rel => exact ⟨_, ((t113 != 0)), (by first | rfl | (simp; done) | (simp [*]; done)), H', ⟨by first | omega | exact Nat.le_refl _⟩, ⟨by repeat (first | (with_reducible first | exact HB.out | apply below_alloc | apply pw_below_drewN | apply below_drew1) | exact HB.out)⟩⟩
          · rw [if_neg c20] at H
            have c20b0 : (t112 == a0) = false := beq_eq_false_iff_ne.mpr c20
            have c20b1 : (t112 != a0) = true := bne_iff_ne.mpr c20
            have H' := Aside0.mk H
            clear H
            go_wp2_with (first | ((with_reducible refine gate_callee (f := 26) rfl ?_); refine goesL_ (some 13) rfl rfl Try.func26 (by kernel_rfl) rfl #[.int .u8 a0, .int .u8 a1] rfl (by (try simp only [List.map_toArray, List.map_cons, List.map_nil]); first | done | rfl | (simp only [List.length_drop, List.length_take]; rfl)) ?_; (with_reducible refine (gf_Mul.calls a0 a1 t101 _ A5.out).mono ?_); rintro e w33 ⟨rfl, hb⟩; refine ⟨_, rfl, ?_⟩; have n0_ := Aside0.mk (below_step (by repeat (first | (with_reducible first | exact HB.out | apply below_alloc | apply pw_below_drewN | apply below_drew1) | exact HB.out)) hb); clear HB; have HB := n0_; clear n0_; (try clear hb); (try clear hb2); (try clear hk); (try clear hi)) | ((with_reducible refine gate_callee (f := 26) rfl ?_); refine goesL_ (some 16) rfl rfl Try.func26 (by kernel_rfl) rfl #[.int .u8 a1, .int .u8 a0] rfl (by (try simp only [List.map_toArray, List.map_cons, List.map_nil]); first | done | rfl | (simp only [List.length_drop, List.length_take]; rfl)) ?_; (with_reducible refine (gf_Mul.calls a1 a0 t102 _ A6.out).mono ?_); rintro e w34 ⟨rfl, hb⟩; refine ⟨_, rfl, ?_⟩; have n0_ := Aside0.mk (below_step (by repeat (first | (with_reducible first | exact HB.out | apply below_alloc | apply pw_below_drewN | apply below_drew1) | exact HB.out)) hb); clear HB; have HB := n0_; clear n0_; (try clear hb); (try clear hb2); (try clear hk); (try clear hi)) | (go_at_call 26; (with_reducible refine (gf_Mul.calls a0 a1 t101 _ A8.out).mono ?_); rintro e w35 ⟨rfl, hb⟩; have n0_ := Aside0.mk (below_step (by repeat (first | (with_reducible first | exact HB.out | apply below_alloc | apply pw_below_drewN | apply below_drew1) | exact HB.out)) hb); clear HB; have HB := n0_; clear n0_; (try clear hb); (try clear hb2); (try clear hk); (try clear hi)) | (go_at_call 26; (with_reducible refine (gf_Mul.calls t101 a2 t104 _ A9.out).mono ?_); rintro e w36 ⟨rfl, hb⟩; have n0_ := Aside0.mk (below_step (by repeat (first | (with_reducible first | exact HB.out | apply below_alloc | apply pw_below_drewN | apply below_drew1) | exact HB.out)) hb); clear HB; have HB := n0_; clear n0_; (try clear hb); (try clear hb2); (try clear hk); (try clear hi)) | (go_at_call 26; (with_reducible refine (gf_Mul.calls a1 a2 t105 _ A10.out).mono ?_); rintro e w37 ⟨rfl, hb⟩; have n0_ := Aside0.mk (below_step (by repeat (first | (with_reducible first | exact HB.out | apply below_alloc | apply pw_below_drewN | apply below_drew1) | exact HB.out)) hb); clear HB; have HB := n0_; clear n0_; (try clear hb); (try clear hb2); (try clear hk); (try clear hi)) | (go_at_call 26; (with_reducible refine (gf_Mul.calls a0 t105 t106 _ A11.out).mono ?_); rintro e w38 ⟨rfl, hb⟩; have n0_ := Aside0.mk (below_step (by repeat (first | (with_reducible first | exact HB.out | apply below_alloc | apply pw_below_drewN | apply below_drew1) | exact HB.out)) hb); clear HB; have HB := n0_; clear n0_; (try clear hb); (try clear hb2); (try clear hk); (try clear hi)) | (go_at_call 27; (with_reducible refine (gf_Add.calls a1 a2 t107 _ A13.out).mono ?_); rintro e w' ⟨rfl, ⟨nd, rfl⟩⟩) | (go_at_call 26; (with_reducible refine (gf_Mul.calls a0 t107 t108 _ A14.out).mono ?_); rintro e w39 ⟨rfl, hb⟩; have n0_ := Aside0.mk (below_step (by repeat (first | (with_reducible first | exact HB.out | apply below_alloc | apply pw_below_drewN | apply below_drew1) | exact HB.out)) hb); clear HB; have HB := n0_; clear n0_; (try clear hb); (try clear hb2); (try clear hk); (try clear hi)) | (go_at_call 26; (with_reducible refine (gf_Mul.calls a0 a1 t101 _ A15.out).mono ?_); rintro e w40 ⟨rfl, hb⟩; have n0_ := Aside0.mk (below_step (by repeat (first | (with_reducible first | exact HB.out | apply below_alloc | apply pw_below_drewN | apply below_drew1) | exact HB.out)) hb); clear HB; have HB := n0_; clear n0_; (try clear hb); (try clear hb2); (try clear hk); (try clear hi)) | (go_at_call 26; (with_reducible refine (gf_Mul.calls a0 a2 t110 _ A16.out).mono ?_); rintro e w41 ⟨rfl, hb⟩; have n0_ := Aside0.mk (below_step (by repeat (first | (with_reducible first | exact HB.out | apply below_alloc | apply pw_below_drewN | apply below_drew1) | exact HB.out)) hb); clear HB; have HB := n0_; clear n0_; (try clear hb); (try clear hb2); (try clear hk); (try clear hi)) | (go_at_call 27; (with_reducible refine (gf_Add.calls t101 t110 t111 _ A17.out).mono ?_); rintro e w' ⟨rfl, ⟨nd, rfl⟩⟩) | (go_at_call 26; (with_reducible refine (gf_Mul.calls a0 1 t112 _ A19.out).mono ?_); rintro e w42 ⟨rfl, hb⟩; have n0_ := Aside0.mk (below_step (by repeat (first | (with_reducible first | exact HB.out | apply below_alloc | apply pw_below_drewN | apply below_drew1) | exact HB.out)) hb); clear HB; have HB := n0_; clear n0_; (try clear hb); (try clear hb2); (try clear hk); (try clear hi)))
            go_meet
            case rel => exact ⟨_, (true), (by first | rfl | (simp; done) | (simp [*]; done)), H', ⟨by first | omega | exact Nat.le_refl _⟩, ⟨by repeat (first | (with_reducible first | exact HB.out | apply below_alloc | apply pw_below_drewN | apply below_drew1) | exact HB.out)⟩⟩
        · rw [if_neg c18] at H
          have c18b0 : (t108 == t111) = false := beq_eq_false_iff_ne.mpr c18
          have c18b1 : (t108 != t111) = true := bne_iff_ne.mpr c18
          have H' := Aside0.mk H
          clear H
          go_wp2_with (first | ((with_reducible refine gate_callee (f := 26) rfl ?_); refine goesL_ (some 13) rfl rfl Try.func26 (by kernel_rfl) rfl #[.int .u8 a0, .int .u8 a1] rfl (by (try simp only [List.map_toArray, List.map_cons, List.map_nil]); first | done | rfl | (simp only [List.length_drop, List.length_take]; rfl)) ?_; (with_reducible refine (gf_Mul.calls a0 a1 t101 _ A5.out).mono ?_); rintro e w43 ⟨rfl, hb⟩; refine ⟨_, rfl, ?_⟩; have n0_ := Aside0.mk (below_step (by repeat (first | (with_reducible first | exact HB.out | apply below_alloc | apply pw_below_drewN | apply below_drew1) | exact HB.out)) hb); clear HB; have HB := n0_; clear n0_; (try clear hb); (try clear hb2); (try clear hk); (try clear hi)) | ((with_reducible refine gate_callee (f := 26) rfl ?_); refine goesL_ (some 16) rfl rfl Try.func26 (by kernel_rfl) rfl #[.int .u8 a1, .int .u8 a0] rfl (by (try simp only [List.map_toArray, List.map_cons, List.map_nil]); first | done | rfl | (simp only [List.length_drop, List.length_take]; rfl)) ?_; (with_reducible refine (gf_Mul.calls a1 a0 t102 _ A6.out).mono ?_); rintro e w44 ⟨rfl, hb⟩; refine ⟨_, rfl, ?_⟩; have n0_ := Aside0.mk (below_step (by repeat (first | (with_reducible first | exact HB.out | apply below_alloc | apply pw_below_drewN | apply below_drew1) | exact HB.out)) hb); clear HB; have HB := n0_; clear n0_; (try clear hb); (try clear hb2); (try clear hk); (try clear hi)) | (go_at_call 26; (with_reducible refine (gf_Mul.calls a0 a1 t101 _ A8.out).mono ?_); rintro e w45 ⟨rfl, hb⟩; have n0_ := Aside0.mk (below_step (by repeat (first | (with_reducible first | exact HB.out | apply below_alloc | apply pw_below_drewN | apply below_drew1) | exact HB.out)) hb); clear HB; have HB := n0_; clear n0_; (try clear hb); (try clear hb2); (try clear hk); (try clear hi)) | (go_at_call 26; (with_reducible refine (gf_Mul.calls t101 a2 t104 _ A9.out).mono ?_); rintro e w46 ⟨rfl, hb⟩; have n0_ := Aside0.mk (below_step (by repeat (first | (with_reducible first | exact HB.out | apply below_alloc | apply pw_below_drewN | apply below_drew1) | exact HB.out)) hb); clear HB; have HB := n0_; clear n0_; (try clear hb); (try clear hb2); (try clear hk); (try clear hi)) | (go_at_call 26; (with_reducible refine (gf_Mul.calls a1 a2 t105 _ A10.out).mono ?_); rintro e w47 ⟨rfl, hb⟩; have n0_ := Aside0.mk (below_step (by repeat (first | (with_reducible first | exact HB.out | apply below_alloc | apply pw_below_drewN | apply below_drew1) | exact HB.out)) hb); clear HB; have HB := n0_; clear n0_; (try clear hb); (try clear hb2); (try clear hk); (try clear hi)) | (go_at_call 26; (with_reducible refine (gf_Mul.calls a0 t105 t106 _ A11.out).mono ?_); rintro e w48 ⟨rfl, hb⟩; have n0_ := Aside0.mk (below_step (by repeat (first | (with_reducible first | exact HB.out | apply below_alloc | apply pw_below_drewN | apply below_drew1) | exact HB.out)) hb); clear HB; have HB := n0_; clear n0_; (try clear hb); (try clear hb2); (try clear hk); (try clear hi)) | (go_at_call 27; (with_reducible refine (gf_Add.calls a1 a2 t107 _ A13.out).mono ?_); rintro e w' ⟨rfl, ⟨nd, rfl⟩⟩) | (go_at_call 26; (with_reducible refine (gf_Mul.calls a0 t107 t108 _ A14.out).mono ?_); rintro e w49 ⟨rfl, hb⟩; have n0_ := Aside0.mk (below_step (by repeat (first | (with_reducible first | exact HB.out | apply below_alloc | apply pw_below_drewN | apply below_drew1) | exact HB.out)) hb); clear HB; have HB := n0_; clear n0_; (try clear hb); (try clear hb2); (try clear hk); (try clear hi)) | (go_at_call 26; (with_reducible refine (gf_Mul.calls a0 a1 t101 _ A15.out).mono ?_); rintro e w50 ⟨rfl, hb⟩; have n0_ := Aside0.mk (below_step (by repeat (first | (with_reducible first | exact HB.out | apply below_alloc | apply pw_below_drewN | apply below_drew1) | exact HB.out)) hb); clear HB; have HB := n0_; clear n0_; (try clear hb); (try clear hb2); (try clear hk); (try clear hi)) | (go_at_call 26; (with_reducible refine (gf_Mul.calls a0 a2 t110 _ A16.out).mono ?_); rintro e w51 ⟨rfl, hb⟩; have n0_ := Aside0.mk (below_step (by repeat (first | (with_reducible first | exact HB.out | apply below_alloc | apply pw_below_drewN | apply below_drew1) | exact HB.out)) hb); clear HB; have HB := n0_; clear n0_; (try clear hb); (try clear hb2); (try clear hk); (try clear hi)) | (go_at_call 27; (with_reducible refine (gf_Add.calls t101 t110 t111 _ A17.out).mono ?_); rintro e w' ⟨rfl, ⟨nd, rfl⟩⟩))
          go_meet
          case rel => exact ⟨_, (true), (by first | rfl | (simp; done) | (simp [*]; done)), H', ⟨by first | omega | exact Nat.le_refl _⟩, ⟨by repeat (first | (with_reducible first | exact HB.out | apply below_alloc | apply pw_below_drewN | apply below_drew1) | exact HB.out)⟩⟩
      · rw [if_neg c12] at H
        have c12b0 : (t104 == t106) = false := beq_eq_false_iff_ne.mpr c12
        have c12b1 : (t104 != t106) = true := bne_iff_ne.mpr c12
        have H' := Aside0.mk H
        clear H
        go_wp2_with (first | ((with_reducible refine gate_callee (f := 26) rfl ?_); refine goesL_ (some 13) rfl rfl Try.func26 (by kernel_rfl) rfl #[.int .u8 a0, .int .u8 a1] rfl (by (try simp only [List.map_toArray, List.map_cons, List.map_nil]); first | done | rfl | (simp only [List.length_drop, List.length_take]; rfl)) ?_; (with_reducible refine (gf_Mul.calls a0 a1 t101 _ A5.out).mono ?_); rintro e w52 ⟨rfl, hb⟩; refine ⟨_, rfl, ?_⟩; have n0_ := Aside0.mk (below_step (by repeat (first | (with_reducible first | exact HB.out | apply below_alloc | apply pw_below_drewN | apply below_drew1) | exact HB.out)) hb); clear HB; have HB := n0_; clear n0_; (try clear hb); (try clear hb2); (try clear hk); (try clear hi)) | ((with_reducible refine gate_callee (f := 26) rfl ?_); refine goesL_ (some 16) rfl rfl Try.func26 (by kernel_rfl) rfl #[.int .u8 a1, .int .u8 a0] rfl (by (try simp only [List.map_toArray, List.map_cons, List.map_nil]); first | done | rfl | (simp only [List.length_drop, List.length_take]; rfl)) ?_; (with_reducible refine (gf_Mul.calls a1 a0 t102 _ A6.out).mono ?_); rintro e w53 ⟨rfl, hb⟩; refine ⟨_, rfl, ?_⟩; have n0_ := Aside0.mk (below_step (by repeat (first | (with_reducible first | exact HB.out | apply below_alloc | apply pw_below_drewN | apply below_drew1) | exact HB.out)) hb); clear HB; have HB := n0_; clear n0_; (try clear hb); (try clear hb2); (try clear hk); (try clear hi)) | (go_at_call 26; (with_reducible refine (gf_Mul.calls a0 a1 t101 _ A8.out).mono ?_); rintro e w54 ⟨rfl, hb⟩; have n0_ := Aside0.mk (below_step (by repeat (first | (with_reducible first | exact HB.out | apply below_alloc | apply pw_below_drewN | apply below_drew1) | exact HB.out)) hb); clear HB; have HB := n0_; clear n0_; (try clear hb); (try clear hb2); (try clear hk); (try clear hi)) | (go_at_call 26; (with_reducible refine (gf_Mul.calls t101 a2 t104 _ A9.out).mono ?_); rintro e w55 ⟨rfl, hb⟩; have n0_ := Aside0.mk (below_step (by repeat (first | (with_reducible first | exact HB.out | apply below_alloc | apply pw_below_drewN | apply below_drew1) | exact HB.out)) hb); clear HB; have HB := n0_; clear n0_; (try clear hb); (try clear hb2); (try clear hk); (try clear hi)) | (go_at_call 26; (with_reducible refine (gf_Mul.calls a1 a2 t105 _ A10.out).mono ?_); rintro e w56 ⟨rfl, hb⟩; have n0_ := Aside0.mk (below_step (by repeat (first | (with_reducible first | exact HB.out | apply below_alloc | apply pw_below_drewN | apply below_drew1) | exact HB.out)) hb); clear HB; have HB := n0_; clear n0_; (try clear hb); (try clear hb2); (try clear hk); (try clear hi)) | (go_at_call 26; (with_reducible refine (gf_Mul.calls a0 t105 t106 _ A11.out).mono ?_); rintro e w57 ⟨rfl, hb⟩; have n0_ := Aside0.mk (below_step (by repeat (first | (with_reducible first | exact HB.out | apply below_alloc | apply pw_below_drewN | apply below_drew1) | exact HB.out)) hb); clear HB; have HB := n0_; clear n0_; (try clear hb); (try clear hb2); (try clear hk); (try clear hi)))
        go_meet
        case rel => exact ⟨_, (true), (by first | rfl | (simp; done) | (simp [*]; done)), H', ⟨by first | omega | exact Nat.le_refl _⟩, ⟨by repeat (first | (with_reducible first | exact HB.out | apply below_alloc | apply pw_below_drewN | apply below_drew1) | exact HB.out)⟩⟩
    · rw [if_neg c7] at H
      have c7b0 : (t101 == t102) = false := beq_eq_false_iff_ne.mpr c7
      have c7b1 : (t101 != t102) = true := bne_iff_ne.mpr c7
      (first | rw [c7b0] | (simp only [i64_w, i32_w]; rw [c7b0]) | skip)
      have H' := Aside0.mk H
      clear H
      go_wp2_with (first | ((with_reducible refine gate_callee (f := 26) rfl ?_); refine goesL_ (some 13) rfl rfl Try.func26 (by kernel_rfl) rfl #[.int .u8 a0, .int .u8 a1] rfl (by (try simp only [List.map_toArray, List.map_cons, List.map_nil]); first | done | rfl | (simp only [List.length_drop, List.length_take]; rfl)) ?_; (with_reducible refine (gf_Mul.calls a0 a1 t101 _ A5.out).mono ?_); rintro e w58 ⟨rfl, hb⟩; refine ⟨_, rfl, ?_⟩; have n0_ := Aside0.mk (below_step (by repeat (first | (with_reducible first | exact HB.out | apply below_alloc | apply pw_below_drewN | apply below_drew1) | exact HB.out)) hb); clear HB; have HB := n0_; clear n0_; (try clear hb); (try clear hb2); (try clear hk); (try clear hi)) | ((with_reducible refine gate_callee (f := 26) rfl ?_); refine goesL_ (some 16) rfl rfl Try.func26 (by kernel_rfl) rfl #[.int .u8 a1, .int .u8 a0] rfl (by (try simp only [List.map_toArray, List.map_cons, List.map_nil]); first | done | rfl | (simp only [List.length_drop, List.length_take]; rfl)) ?_; (with_reducible refine (gf_Mul.calls a1 a0 t102 _ A6.out).mono ?_); rintro e w59 ⟨rfl, hb⟩; refine ⟨_, rfl, ?_⟩; have n0_ := Aside0.mk (below_step (by repeat (first | (with_reducible first | exact HB.out | apply below_alloc | apply pw_below_drewN | apply below_drew1) | exact HB.out)) hb); clear HB; have HB := n0_; clear n0_; (try clear hb); (try clear hb2); (try clear hk); (try clear hi)))
      go_meet
      case rel => exact ⟨_, (true), (by first | rfl | (simp; done) | (simp [*]; done)), H', ⟨by first | omega | exact Nat.le_refl _⟩, ⟨by repeat (first | (with_reducible first | exact HB.out | apply below_alloc | apply pw_below_drewN | apply below_drew1) | exact HB.out)⟩⟩
  case rest =>
    clear HC4
    try clear c1
    try clear c2
    try clear p2
    try clear c4
    try clear c7
    try clear c7b0
    try clear c7b1
    try clear c12
    try clear c12b0
    try clear c12b1
    try clear c18
    try clear c18b0
    try clear c18b1
    try clear c20
    try clear c20b0
    try clear c20b1
    try clear c26
    obtain ⟨kq, x56_3, rfl, HA, HJ3, HB⟩ := hcut
    cases kq with
    | zero => exact absurd HA.out (by simp [mooringlaw01_GfField.j0])
    | succ kj3 =>
      have H := HA.out
      clear HA
      simp only [mooringlaw01_GfField.j0] at H
      by_cases c60 : x56_3 = true
      · subst c60
        have H1 : (some false) = some r := by rw [if_pos rfl] at H; exact H
        clear H
        have H := H1
        clear H1
        obtain rfl := Option.some.inj H
        go_wp2
        go_ret
        exact ⟨by first | rfl | (simp [errW_none, errW_some] <;> rfl) | (simp [*, errW_none, errW_some] <;> rfl), by repeat (first | (with_reducible first | exact HB.out | apply below_alloc | apply pw_below_drewN | apply below_drew1) | exact HB.out)⟩
      · replace c60 := Bool.eq_false_iff.mpr c60
        subst c60
        have H1 : ((gf_Inv.f a0).bind fun bt114 => ((gf_Log.f a0).bind fun bt116 => (if (bt114.2 != (a0 != 0)) = true then (mooringlaw01_GfField.j1 kj3 a0 bt114.1 bt114.2 bt116.1 true) else (mooringlaw01_GfField.j1 kj3 a0 bt114.1 bt114.2 bt116.1 (bt116.2 != bt114.2))))) = some r := by rw [if_neg (show ¬ (false = true) by decide)] at H; exact H
        clear H
        have H := H1
        clear H1
        replace H := Option.bind_eq_some_iff.mp H
        obtain ⟨⟨t114, t115⟩, A610, H⟩ := H
        replace H : ((gf_Log.f a0).bind fun bt116 => (if (t115 != (a0 != 0)) = true then (mooringlaw01_GfField.j1 kj3 a0 t114 t115 bt116.1 true) else (mooringlaw01_GfField.j1 kj3 a0 t114 t115 bt116.1 (bt116.2 != t115)))) = some r := H
        have A61 := Aside0.mk A610
        clear A610
        replace H := Option.bind_eq_some_iff.mp H
        obtain ⟨⟨t116, t117⟩, A620, H⟩ := H
        replace H : (if (t115 != (a0 != 0)) = true then (mooringlaw01_GfField.j1 kj3 a0 t114 t115 t116 true) else (mooringlaw01_GfField.j1 kj3 a0 t114 t115 t116 (t117 != t115))) = some r := H
        have A62 := Aside0.mk A620
        clear A620
        have HC63 := Aside0.mk H
        clear H
        go_upto_region 5 with (first | ((with_reducible refine gate_callee (f := 28) rfl ?_); refine goesL_ (some 59) rfl rfl Try.func28 (by kernel_rfl) rfl #[.int .u8 a0] rfl (by (try simp only [List.map_toArray, List.map_cons, List.map_nil]); first | done | rfl | (simp only [List.length_drop, List.length_take]; rfl)) ?_; (with_reducible refine (gf_Inv.calls a0 t114 t115 _ A61.out).mono ?_); rintro e w64 ⟨rfl, hb⟩; refine ⟨_, rfl, ?_⟩; have n0_ := Aside0.mk (below_step (by repeat (first | (with_reducible first | exact HB.out | apply below_alloc | apply pw_below_drewN | apply below_drew1) | exact HB.out)) hb); clear HB; have HB := n0_; clear n0_; (try clear hb); (try clear hb2); (try clear hk); (try clear hi)) | ((with_reducible refine gate_callee (f := 29) rfl ?_); refine goesL_ (some 64) rfl rfl Try.func29 (by kernel_rfl) rfl #[.int .u8 a0] rfl (by (try simp only [List.map_toArray, List.map_cons, List.map_nil]); first | done | rfl | (simp only [List.length_drop, List.length_take]; rfl)) ?_; (with_reducible refine (gf_Log.calls a0 t116 t117 _ A62.out).mono ?_); rintro e w65 ⟨rfl, hb⟩; refine ⟨_, rfl, ?_⟩; have n0_ := Aside0.mk (below_step (by repeat (first | (with_reducible first | exact HB.out | apply below_alloc | apply pw_below_drewN | apply below_drew1) | exact HB.out)) hb); clear HB; have HB := n0_; clear n0_; (try clear hb); (try clear hb2); (try clear hk); (try clear hi)))
        (try simp only [Act.put, List.setIfInBounds_toArray, List.set_cons_zero, List.set_cons_succ])
        go_cut [75] (fun v75 wc => ∃ (kq : Nat) (x75_62 : Bool), v75 = .bool x75_62 ∧ Aside0 (mooringlaw01_GfField.j1 kq a0 t114 t115 t116 x75_62 = some r) ∧ Aside0 (kq ≤ kj3) ∧ Aside0 (Below w.heap.size w wc))
        case first =>
          have H := HC63.out
          clear HC63
          by_cases c66 : (t115 != (a0 != 0)) = true
          · rw [if_pos c66] at H
            have c66b0 : (t115 != (a0 != 0)) = true := c66
            (try (have c66b1 : decide (t115 = (a0 != 0)) = false := by simpa using c66))
            (try (have c66b2 : (t115 == (a0 != 0)) = false := by simpa using c66))
            (try (have c66b3 : ¬ (t115 = (a0 != 0)) := by simpa using c66))
            clear c66
            (first | rw [c66b0] | (simp only [i64_w, i32_w]; rw [c66b0]) | skip)
            have H' := Aside0.mk H
            clear H
            go_wp2
            go_meet
            case rel => exact ⟨_, (true), (by first | rfl | (simp; done) | (simp [*]; done)), H', ⟨by have := HJ3.out; first | omega | exact Nat.le_refl _⟩, ⟨by repeat (first | (with_reducible first | exact HB.out | apply below_alloc | apply pw_below_drewN | apply below_drew1) | exact HB.out)⟩⟩
          · rw [if_neg c66] at H
            have c66b0 : (t115 != (a0 != 0)) = false := by simpa using c66
            (try (have c66b1 : decide (t115 = (a0 != 0)) = true := by simpa using c66))
            (try (have c66b2 : (t115 == (a0 != 0)) = true := by simpa using c66))
            clear c66
            (first | rw [c66b0] | (simp only [i64_w, i32_w]; rw [c66b0]) | skip)
            have H' := Aside0.mk H
            clear H
            go_wp2
            go_meet
            case rel => exact ⟨_, ((t117 != t115)), (by first | rfl | (simp; done) | (simp [*]; done)), H', ⟨by have := HJ3.out; first | omega | exact Nat.le_refl _⟩, ⟨by repeat (first | (with_reducible first | exact HB.out | apply below_alloc | apply pw_below_drewN | apply below_drew1) | exact HB.out)⟩⟩
        case rest =>
          clear HC63
          try clear c1
          try clear c2
          try clear p2
          try clear c4
          try clear c6
          try clear c7
          try clear c7b0
          try clear c7b1
          try clear c12
          try clear c12b0
          try clear c12b1
          try clear c18
          try clear c18b0
          try clear c18b1
          try clear c20
          try clear c20b0
          try clear c20b1
          try clear c26
          try clear c28
          try clear c29
          try clear c60
          try clear c66
          try clear c66b0
          try clear c66b1
          try clear c66b2
          try clear p2
          obtain ⟨kq, x75_62, rfl, HA, HJ62, HB⟩ := hcut
          cases kq with
          | zero => exact absurd HA.out (by simp [mooringlaw01_GfField.j1])
          | succ kj62 =>
            have H := HA.out
            clear HA
            simp only [mooringlaw01_GfField.j1] at H
            by_cases c67 : x75_62 = true
            · subst c67
              have H1 : (some false) = some r := by rw [if_pos rfl] at H; exact H
              clear H
              have H := H1
              clear H1
              obtain rfl := Option.some.inj H
              go_wp2
              go_ret
              exact ⟨by first | rfl | (simp [errW_none, errW_some] <;> rfl) | (simp [*, errW_none, errW_some] <;> rfl), by repeat (first | (with_reducible first | exact HB.out | apply below_alloc | apply pw_below_drewN | apply below_drew1) | exact HB.out)⟩
            · replace c67 := Bool.eq_false_iff.mpr c67
              subst c67
              have H1 : (if t115 = true then ((gf_Mul.f a0 t114).bind fun t118 => (if t118 = 1 then ((gf_Exp.f t116).bind fun t119 => (if t119 = a0 then ((mooringlaw01_awake.f).bind fun t120 => (some t120)) else (some false))) else (some false))) else ((mooringlaw01_awake.f).bind fun t121 => (some t121))) = some r := by rw [if_neg (show ¬ (false = true) by decide)] at H; exact H
              clear H
              have H := H1
              clear H1
              by_cases c68 : t115 = true
              · subst c68
                have H1 : ((gf_Mul.f a0 t114).bind fun t118 => (if t118 = 1 then ((gf_Exp.f t116).bind fun t119 => (if t119 = a0 then ((mooringlaw01_awake.f).bind fun t120 => (some t120)) else (some false))) else (some false))) = some r := by rw [if_pos rfl] at H; exact H
                clear H
                have H := H1
                clear H1
                replace H := Option.bind_eq_some_iff.mp H
                obtain ⟨t118, A690, H⟩ := H
                replace H : (if t118 = 1 then ((gf_Exp.f t116).bind fun t119 => (if t119 = a0 then ((mooringlaw01_awake.f).bind fun t120 => (some t120)) else (some false))) else (some false)) = some r := H
                have A69 := Aside0.mk A690
                clear A690
                by_cases c70 : t118 = 1
                · rw [if_pos c70] at H
                  have c70b0 : (t118 == 1) = true := beq_iff_eq.mpr c70
                  have c70b1 : (t118 != 1) = false := bne_eq_false_iff_eq.mpr c70
                  clear c70
                  replace H := Option.bind_eq_some_iff.mp H
                  obtain ⟨t119, A710, H⟩ := H
                  replace H : (if t119 = a0 then ((mooringlaw01_awake.f).bind fun t120 => (some t120)) else (some false)) = some r := H
                  have A71 := Aside0.mk A710
                  clear A710
                  by_cases c72 : t119 = a0
                  · rw [if_pos c72] at H
                    have c72b0 : (t119 == a0) = true := beq_iff_eq.mpr c72
                    have c72b1 : (t119 != a0) = false := bne_eq_false_iff_eq.mpr c72
                    clear c72
                    replace H := Option.bind_eq_some_iff.mp H
                    obtain ⟨t120, A730, H⟩ := H
                    replace H : (some t120) = some r := H
                    have A73 := Aside0.mk A730
                    clear A730
                    obtain rfl := Option.some.inj H
                    go_wp2_with (first | (go_at_call 26; (with_reducible refine (gf_Mul.calls a0 t114 t118 _ A69.out).mono ?_); rintro e w74 ⟨rfl, hb⟩; have n0_ := Aside0.mk (below_step (by repeat (first | (with_reducible first | exact HB.out | apply below_alloc | apply pw_below_drewN | apply below_drew1) | exact HB.out)) hb); clear HB; have HB := n0_; clear n0_; (try clear hb); (try clear hb2); (try clear hk); (try clear hi)) | (go_at_call 30; (with_reducible refine (gf_Exp.calls t116 t119 _ A71.out).mono ?_); rintro e w75 ⟨rfl, hb⟩; have n0_ := Aside0.mk (below_step (by repeat (first | (with_reducible first | exact HB.out | apply below_alloc | apply pw_below_drewN | apply below_drew1) | exact HB.out)) hb); clear HB; have HB := n0_; clear n0_; (try clear hb); (try clear hb2); (try clear hk); (try clear hi)) | (go_at_call 31; (with_reducible refine (mooringlaw01_awake.calls  t120 _ A73.out).mono ?_); rintro e w76 ⟨rfl, hb⟩; have n0_ := Aside0.mk (below_step (by repeat (first | (with_reducible first | exact HB.out | apply below_alloc | apply pw_below_drewN | apply below_drew1) | exact HB.out)) hb); clear HB; have HB := n0_; clear n0_; (try clear hb); (try clear hb2); (try clear hk); (try clear hi)))
                    go_ret
                    exact ⟨by first | rfl | (simp [errW_none, errW_some] <;> rfl) | (simp [*, errW_none, errW_some] <;> rfl), by repeat (first | (with_reducible first | exact HB.out | apply below_alloc | apply pw_below_drewN | apply below_drew1) | exact HB.out)⟩
                  · rw [if_neg c72] at H
                    have c72b0 : (t119 == a0) = false := beq_eq_false_iff_ne.mpr c72
                    have c72b1 : (t119 != a0) = true := bne_iff_ne.mpr c72
                    obtain rfl := Option.some.inj H
                    go_wp2_with (first | (go_at_call 26; (with_reducible refine (gf_Mul.calls a0 t114 t118 _ A69.out).mono ?_); rintro e w77 ⟨rfl, hb⟩; have n0_ := Aside0.mk (below_step (by repeat (first | (with_reducible first | exact HB.out | apply below_alloc | apply pw_below_drewN | apply below_drew1) | exact HB.out)) hb); clear HB; have HB := n0_; clear n0_; (try clear hb); (try clear hb2); (try clear hk); (try clear hi)) | (go_at_call 30; (with_reducible refine (gf_Exp.calls t116 t119 _ A71.out).mono ?_); rintro e w78 ⟨rfl, hb⟩; have n0_ := Aside0.mk (below_step (by repeat (first | (with_reducible first | exact HB.out | apply below_alloc | apply pw_below_drewN | apply below_drew1) | exact HB.out)) hb); clear HB; have HB := n0_; clear n0_; (try clear hb); (try clear hb2); (try clear hk); (try clear hi)))
                    go_ret
                    exact ⟨by first | rfl | (simp [errW_none, errW_some] <;> rfl) | (simp [*, errW_none, errW_some] <;> rfl), by repeat (first | (with_reducible first | exact HB.out | apply below_alloc | apply pw_below_drewN | apply below_drew1) | exact HB.out)⟩
                · rw [if_neg c70] at H
                  have c70b0 : (t118 == 1) = false := beq_eq_false_iff_ne.mpr c70
                  have c70b1 : (t118 != 1) = true := bne_iff_ne.mpr c70
                  obtain rfl := Option.some.inj H
                  go_wp2_with (first | (go_at_call 26; (with_reducible refine (gf_Mul.calls a0 t114 t118 _ A69.out).mono ?_); rintro e w79 ⟨rfl, hb⟩; have n0_ := Aside0.mk (below_step (by repeat (first | (with_reducible first | exact HB.out | apply below_alloc | apply pw_below_drewN | apply below_drew1) | exact HB.out)) hb); clear HB; have HB := n0_; clear n0_; (try clear hb); (try clear hb2); (try clear hk); (try clear hi)))
                  go_ret
                  exact ⟨by first | rfl | (simp [errW_none, errW_some] <;> rfl) | (simp [*, errW_none, errW_some] <;> rfl), by repeat (first | (with_reducible first | exact HB.out | apply below_alloc | apply pw_below_drewN | apply below_drew1) | exact HB.out)⟩
              · replace c68 := Bool.eq_false_iff.mpr c68
                subst c68
                have H1 : ((mooringlaw01_awake.f).bind fun t121 => (some t121)) = some r := by rw [if_neg (show ¬ (false = true) by decide)] at H; exact H
                clear H
                have H := H1
                clear H1
                replace H := Option.bind_eq_some_iff.mp H
                obtain ⟨t121, A800, H⟩ := H
                replace H : (some t121) = some r := H
                have A80 := Aside0.mk A800
                clear A800
                obtain rfl := Option.some.inj H
                go_wp2_with (first | (go_at_call 31; (with_reducible refine (mooringlaw01_awake.calls  t121 _ A80.out).mono ?_); rintro e w81 ⟨rfl, hb⟩; have n0_ := Aside0.mk (below_step (by repeat (first | (with_reducible first | exact HB.out | apply below_alloc | apply pw_below_drewN | apply below_drew1) | exact HB.out)) hb); clear HB; have HB := n0_; clear n0_; (try clear hb); (try clear hb2); (try clear hk); (try clear hi)))
                go_ret
                exact ⟨by first | rfl | (simp [errW_none, errW_some] <;> rfl) | (simp [*, errW_none, errW_some] <;> rfl), by repeat (first | (with_reducible first | exact HB.out | apply below_alloc | apply pw_below_drewN | apply below_drew1) | exact HB.out)⟩

/-- THE ONE PURE STATEMENT of mooringlaw01_GfField: yours. -/
def mooringlaw01_GfField.Pure : Prop := ∀ (a0 : Int) (a1 : Int) (a2 : Int), (Lit.int .u8 a0).wf = true → (Lit.int .u8 a1).wf = true → (Lit.int .u8 a2).wf = true → ∃ k, mooringlaw01_GfField.f k a0 a1 a2 = some true
theorem mooringlaw01_GfField.walk (P : mooringlaw01_GfField.Pure) (a0 : Int) (a1 : Int) (a2 : Int) (w : World) (w0 : (Lit.int .u8 a0).wf = true) (w1 : (Lit.int .u8 a1).wf = true) (w2 : (Lit.int .u8 a2).wf = true) :
    Calls Try.prog 4 #[.int .u8 a0, .int .u8 a1, .int .u8 a2] w fun e w' => e = .returned (.bool true) ∧ Below w.heap.size w w' := by
  obtain ⟨k, h⟩ := P a0 a1 a2 w0 w1 w2
  refine (mooringlaw01_GfField.calls k a0 a1 a2 true w h).mono ?_
  rintro e w' ⟨rfl, hd⟩
  exact ⟨rfl, hd⟩

end Go.Proofs.Ytbogmlckbkogiaa.P
