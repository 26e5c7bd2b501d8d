import Derived.Test.YtbogmlckbkogiaaMMatrixOrders1
import Derived.Test.YtbogmlckbkogiaaMMatrixOrders4
import Derived.Test.YtbogmlckbkogiaaMMatrixOrders5
import Derived.Test.YtbogmlckbkogiaaMMatrixOrders2
import Derived.Deep.Matrix
import Derived.SizedLaws
import Derived.ChangeSlices
-- Printed by a wrapper (wip/tools/myprint.py) of the kit's print, with hand-written contracts as given leaves.
namespace Go.Proofs.Ytbogmlckbkogiaa.P
open Go.Proofs.Ytbogmlckbkogiaa.H
open Go.Proofs.Ytbogmlckbkogiaa.Leaf
open Go.RowKit Go.Proofs.YtbogmlckbkogiaaW.PrintWords Go.Proofs.YtbogmlckbkogiaaW.PrintLast Go.Proofs.YtbogmlckbkogiaaW.PrintMore
attribute [local go_sem] max2_int min2_int max_two min_two max_three min_three max_four min_four   -- for this text's walks alone
set_option linter.unusedVariables false
set_option linter.unusedSimpArgs false

/-! ### mooringlaw02_MatrixMuls: function 13 -/
def mooringlaw02_MatrixMuls.j0 : Nat → List (List Int) → List (List Int) → Bool → Option (Bool)
  | 0, _, _, _ => none
  | k + 1, x0, x1, x16 => if x16 = true then ((mooringlaw02_awake.f).bind fun t103 => (some t103)) else ((matrix_Mul.f k x0 x1).bind fun bt104 => ((mooringref02_Mul.f k x0 x1).bind fun bt108 => ((matrix_Check.f k x0).bind fun t112 => ((mooringref02_May.f k x0).bind fun t113 => ((mooringlaw02_errno.f t113).bind fun t114 => (if t112 = t114 then (if bt104.2 = bt108.2 then ((mooringref02_Same.f k bt104.1 bt108.1).bind fun t115 => (if t115 = true then ((mooringlaw02_awake.f).bind fun t116 => (some t116)) else (some false))) else (some false)) else (some false)))))))
def mooringlaw02_MatrixMuls.f (k : Nat) (l0 : List (List Int)) (l1 : List (List Int)) : Option (Bool) := (mooringlaw02_light.f l0).bind fun t101 => (if t101 = true then ((mooringlaw02_light.f l1).bind fun t102 => (mooringlaw02_MatrixMuls.j0 k l0 l1 (!t102))) else (mooringlaw02_MatrixMuls.j0 k l0 l1 true))
theorem mooringlaw02_MatrixMuls.mono_l : ∀ k, (∀ y0 y1 y2, LeO (mooringlaw02_MatrixMuls.j0 k y0 y1 y2) (mooringlaw02_MatrixMuls.j0 (k + 1) y0 y1 y2))
  | 0 => fun _ _ _ r h => by simp [mooringlaw02_MatrixMuls.j0] at h
  | k + 1 => by
    have ih0 := mooringlaw02_MatrixMuls.mono_l k
    · intro y0 y1 y2
      unfold mooringlaw02_MatrixMuls.j0
      repeat' first
      | (with_reducible exact ih0 _ _ _)
      | (with_reducible exact matrix_Check.mono _ _)
      | (with_reducible exact matrix_Mul.mono _ _ _)
      | (with_reducible exact mooringref02_May.mono _ _)
      | (with_reducible exact mooringref02_Mul.mono _ _ _)
      | (with_reducible exact mooringref02_Same.mono _ _ _)
      | (with_reducible exact LeO.refl _)
      | (with_reducible exact LeO.none _)
      | (with_reducible refine LeO.ite ?_ ?_)
      | (with_reducible refine LeO.bind ?_ (fun _ => ?_))
      | exact ih0 _ _ _
      | exact matrix_Check.mono _ _
      | exact matrix_Mul.mono _ _ _
      | exact mooringref02_May.mono _ _
      | exact mooringref02_Mul.mono _ _ _
      | exact mooringref02_Same.mono _ _ _
      | exact LeO.none _
      | refine LeO.ite ?_ ?_
      | refine LeO.bind ?_ (fun _ => ?_)
theorem mooringlaw02_MatrixMuls.mono : ∀ a0 a1 k, LeO (mooringlaw02_MatrixMuls.f k a0 a1) (mooringlaw02_MatrixMuls.f (k + 1) a0 a1) := by
  intro a0 a1 k
  have ih0 := mooringlaw02_MatrixMuls.mono_l k
  unfold mooringlaw02_MatrixMuls.f
  repeat' first
      | (with_reducible exact ih0 _ _ _)
      | (with_reducible exact matrix_Check.mono _ _)
      | (with_reducible exact matrix_Mul.mono _ _ _)
      | (with_reducible exact mooringref02_May.mono _ _)
      | (with_reducible exact mooringref02_Mul.mono _ _ _)
      | (with_reducible exact mooringref02_Same.mono _ _ _)
      | (with_reducible exact LeO.refl _)
      | (with_reducible exact LeO.none _)
      | (with_reducible refine LeO.ite ?_ ?_)
      | (with_reducible refine LeO.bind ?_ (fun _ => ?_))
      | exact ih0 _ _ _
      | exact matrix_Check.mono _ _
      | exact matrix_Mul.mono _ _ _
      | exact mooringref02_May.mono _ _
      | exact mooringref02_Mul.mono _ _ _
      | exact mooringref02_Same.mono _ _ _
      | exact LeO.none _
      | refine LeO.ite ?_ ?_
      | refine LeO.bind ?_ (fun _ => ?_)
set_option maxHeartbeats 8000000 in
set_option maxRecDepth 100000 in
theorem mooringlaw02_MatrixMuls.calls (k : Nat) (A0 : Option Addr) (c0 : Nat) (l0 : List (List Int)) (A1 : Option Addr) (c1 : Nat) (l1 : List (List Int)) (r : Bool) (w : World) (hr0 : Kd.C (Kd.slice 5 (Kd.int .u8)) w A0 l0.length l0) (hc0 : l0.length ≤ c0) (hr1 : Kd.C (Kd.slice 5 (Kd.int .u8)) w A1 l1.length l1) (hc1 : l1.length ≤ c1) (h : mooringlaw02_MatrixMuls.f k l0 l1 = some r) :
    Calls Try.prog 13 #[.slice A0 l0.length c0, .slice A1 l1.length c1] w fun e w' => e = .returned (.bool r) ∧ Below w.heap.size w w' := by
  have HR0 := Aside0.mk hr0
  have HC0 := Aside0.mk hc0
  clear hr0 hc0
  have HR1 := Aside0.mk hr1
  have HC1 := Aside0.mk hc1
  clear hr1 hc1
  have HB := Aside0.mk (Below.refl w.heap.size w)
  have H : ((mooringlaw02_light.f l0).bind fun t101 => (if t101 = true then ((mooringlaw02_light.f l1).bind fun t102 => (mooringlaw02_MatrixMuls.j0 k l0 l1 (!t102))) else (mooringlaw02_MatrixMuls.j0 k l0 l1 true))) = some r := h
  clear h
  have HC3 := Aside0.mk H
  clear H
  go_enter Try.func13, Try.ntmps13
  go_upto_region 1 with (fail)
  go_cut [16] (fun v16 wc => ∃ (kq : Nat) (x16_2 : Bool), v16 = .bool x16_2 ∧ Aside0 (mooringlaw02_MatrixMuls.j0 kq l0 l1 x16_2 = some r) ∧ Aside0 (kq ≤ k) ∧ Aside0 (Below w.heap.size w wc))
  case first =>
    have H := HC3.out
    clear HC3
    replace H := Option.bind_eq_some_iff.mp H
    obtain ⟨t101, A40, H⟩ := H
    replace H : (if t101 = true then ((mooringlaw02_light.f l1).bind fun t102 => (mooringlaw02_MatrixMuls.j0 k l0 l1 (!t102))) else (mooringlaw02_MatrixMuls.j0 k l0 l1 true)) = some r := H
    have A4 := Aside0.mk A40
    clear A40
    by_cases c5 : t101 = true
    · subst c5
      have H1 : ((mooringlaw02_light.f l1).bind fun t102 => (mooringlaw02_MatrixMuls.j0 k l0 l1 (!t102))) = some r := by rw [if_pos rfl] at H; exact H
      clear H
      have H := H1
      clear H1
      replace H := Option.bind_eq_some_iff.mp H
      obtain ⟨t102, A60, H⟩ := H
      replace H : (mooringlaw02_MatrixMuls.j0 k l0 l1 (!t102)) = some r := H
      have A6 := Aside0.mk A60
      clear A60
      have H' := Aside0.mk H
      clear H
      go_wp2_with (first | ((with_reducible refine gate_callee (f := 50) rfl ?_); refine goesL_ (some 10) rfl rfl Try.func50 (by kernel_rfl) rfl #[.slice A0 l0.length c0] rfl (by (try simp only [List.map_toArray, List.map_cons, List.map_nil]); first | done | rfl | (simp only [List.length_drop, List.length_take]; rfl)) ?_; (with_reducible refine (mooringlaw02_light.calls _ _ l0 true _ ?side1 ?side2 A4.out).mono ?_); (case side1 => repeat (first | exact (Kd.C_below HR0.out HB.out) | (with_reducible refine Kd.C_alloc ?_ _) | (with_reducible refine Kd.C_drewN ?_ _) | (with_reducible refine Kd.C_drew ?_))); (case side2 => exact HC0.out); rintro e w' ⟨rfl, ⟨nd, rfl⟩⟩; refine ⟨_, rfl, ?_⟩) | (go_at_call 50; (with_reducible refine (mooringlaw02_light.calls _ _ l1 t102 _ ?side1 ?side2 A6.out).mono ?_); (case side1 => repeat (first | exact (Kd.C_below HR1.out (by repeat (first | (with_reducible first | exact HB.out | apply below_alloc | apply pw_below_drewN | apply below_drew1) | exact HB.out))) | (with_reducible refine Kd.C_alloc ?_ _) | (with_reducible refine Kd.C_drewN ?_ _) | (with_reducible refine Kd.C_drew ?_))); (case side2 => exact HC1.out); rintro e w' ⟨rfl, ⟨nd, rfl⟩⟩))
      go_meet
      case rel => exact ⟨_, (!t102), (by first | rfl | (simp; done) | (simp [*]; done)), H', ⟨by first | omega | exact Nat.le_refl _⟩, ⟨by repeat (first | (with_reducible first | exact HB.out | apply below_alloc | apply pw_below_drewN | apply below_drew1) | exact HB.out)⟩⟩
    · replace c5 := Bool.eq_false_iff.mpr c5
      subst c5
      have H1 : (mooringlaw02_MatrixMuls.j0 k l0 l1 true) = some r := by rw [if_neg (show ¬ (false = true) by decide)] at H; exact H
      clear H
      have H := H1
      clear H1
      have H' := Aside0.mk H
      clear H
      go_wp2_with (first | ((with_reducible refine gate_callee (f := 50) rfl ?_); refine goesL_ (some 10) rfl rfl Try.func50 (by kernel_rfl) rfl #[.slice A0 l0.length c0] rfl (by (try simp only [List.map_toArray, List.map_cons, List.map_nil]); first | done | rfl | (simp only [List.length_drop, List.length_take]; rfl)) ?_; (with_reducible refine (mooringlaw02_light.calls _ _ l0 false _ ?side1 ?side2 A4.out).mono ?_); (case side1 => repeat (first | exact (Kd.C_below HR0.out HB.out) | (with_reducible refine Kd.C_alloc ?_ _) | (with_reducible refine Kd.C_drewN ?_ _) | (with_reducible refine Kd.C_drew ?_))); (case side2 => exact HC0.out); rintro e w' ⟨rfl, ⟨nd, rfl⟩⟩; refine ⟨_, rfl, ?_⟩))
      go_meet
      case rel => exact ⟨_, (true), (by first | rfl | (simp; done) | (simp [*]; done)), H', ⟨by first | omega | exact Nat.le_refl _⟩, ⟨by repeat (first | (with_reducible first | exact HB.out | apply below_alloc | apply pw_below_drewN | apply below_drew1) | exact HB.out)⟩⟩
  case rest =>
    clear HC3
    try clear c1
    try clear p2
    try clear c5
    obtain ⟨kq, x16_2, rfl, HA, HJ2, HB⟩ := hcut
    cases kq with
    | zero => exact absurd HA.out (by simp [mooringlaw02_MatrixMuls.j0])
    | succ kj2 =>
      have H := HA.out
      clear HA
      simp only [mooringlaw02_MatrixMuls.j0] at H
      by_cases c7 : x16_2 = true
      · subst c7
        have H1 : ((mooringlaw02_awake.f).bind fun t103 => (some t103)) = some r := by rw [if_pos rfl] at H; exact H
        clear H
        have H := H1
        clear H1
        replace H := Option.bind_eq_some_iff.mp H
        obtain ⟨t103, A80, H⟩ := H
        replace H : (some t103) = some r := H
        have A8 := Aside0.mk A80
        clear A80
        obtain rfl := Option.some.inj H
        go_wp2_with (first | ((with_reducible refine gate_callee (f := 51) rfl ?_); refine goesL_ (some 17) rfl rfl Try.func51 (by kernel_rfl) rfl #[] rfl (by (try simp only [List.map_toArray, List.map_cons, List.map_nil]); first | done | rfl | (simp only [List.length_drop, List.length_take]; rfl)) ?_; (with_reducible refine (mooringlaw02_awake.calls  t103 _ A8.out).mono ?_); rintro e w9 ⟨rfl, hb⟩; refine ⟨_, rfl, ?_⟩; have n0_ := Aside0.mk (below_step (by repeat (first | (with_reducible first | exact HB.out | apply below_alloc | apply pw_below_drewN | apply below_drew1) | exact HB.out)) hb); clear HB; have HB := n0_; clear n0_; (try clear hb); (try clear hb2); (try clear hk); (try clear hi)))
        go_ret
        exact ⟨by first | rfl | (simp [errW_none, errW_some] <;> rfl) | (simp [*, errW_none, errW_some] <;> rfl), by repeat (first | (with_reducible first | exact HB.out | apply below_alloc | apply pw_below_drewN | apply below_drew1) | exact HB.out)⟩
      · replace c7 := Bool.eq_false_iff.mpr c7
        subst c7
        have H1 : ((matrix_Mul.f kj2 l0 l1).bind fun bt104 => ((mooringref02_Mul.f kj2 l0 l1).bind fun bt108 => ((matrix_Check.f kj2 l0).bind fun t112 => ((mooringref02_May.f kj2 l0).bind fun t113 => ((mooringlaw02_errno.f t113).bind fun t114 => (if t112 = t114 then (if bt104.2 = bt108.2 then ((mooringref02_Same.f kj2 bt104.1 bt108.1).bind fun t115 => (if t115 = true then ((mooringlaw02_awake.f).bind fun t116 => (some t116)) else (some false))) else (some false)) else (some false))))))) = some r := by rw [if_neg (show ¬ (false = true) by decide)] at H; exact H
        clear H
        have H := H1
        clear H1
        replace H := Option.bind_eq_some_iff.mp H
        obtain ⟨⟨t104, t107⟩, A100, H⟩ := H
        replace H : ((mooringref02_Mul.f kj2 l0 l1).bind fun bt108 => ((matrix_Check.f kj2 l0).bind fun t112 => ((mooringref02_May.f kj2 l0).bind fun t113 => ((mooringlaw02_errno.f t113).bind fun t114 => (if t112 = t114 then (if t107 = bt108.2 then ((mooringref02_Same.f kj2 t104 bt108.1).bind fun t115 => (if t115 = true then ((mooringlaw02_awake.f).bind fun t116 => (some t116)) else (some false))) else (some false)) else (some false)))))) = some r := H
        have A10 := Aside0.mk A100
        clear A100
        replace H := Option.bind_eq_some_iff.mp H
        obtain ⟨⟨t108, t109⟩, A110, H⟩ := H
        replace H : ((matrix_Check.f kj2 l0).bind fun t112 => ((mooringref02_May.f kj2 l0).bind fun t113 => ((mooringlaw02_errno.f t113).bind fun t114 => (if t112 = t114 then (if t107 = t109 then ((mooringref02_Same.f kj2 t104 t108).bind fun t115 => (if t115 = true then ((mooringlaw02_awake.f).bind fun t116 => (some t116)) else (some false))) else (some false)) else (some false))))) = some r := H
        have A11 := Aside0.mk A110
        clear A110
        replace H := Option.bind_eq_some_iff.mp H
        obtain ⟨t112, A120, H⟩ := H
        replace H : ((mooringref02_May.f kj2 l0).bind fun t113 => ((mooringlaw02_errno.f t113).bind fun t114 => (if t112 = t114 then (if t107 = t109 then ((mooringref02_Same.f kj2 t104 t108).bind fun t115 => (if t115 = true then ((mooringlaw02_awake.f).bind fun t116 => (some t116)) else (some false))) else (some false)) else (some false)))) = some r := H
        have A12 := Aside0.mk A120
        clear A120
        replace H := Option.bind_eq_some_iff.mp H
        obtain ⟨t113, A130, H⟩ := H
        replace H : ((mooringlaw02_errno.f t113).bind fun t114 => (if t112 = t114 then (if t107 = t109 then ((mooringref02_Same.f kj2 t104 t108).bind fun t115 => (if t115 = true then ((mooringlaw02_awake.f).bind fun t116 => (some t116)) else (some false))) else (some false)) else (some false))) = some r := H
        have A13 := Aside0.mk A130
        clear A130
        replace H := Option.bind_eq_some_iff.mp H
        obtain ⟨t114, A140, H⟩ := H
        replace H : (if t112 = t114 then (if t107 = t109 then ((mooringref02_Same.f kj2 t104 t108).bind fun t115 => (if t115 = true then ((mooringlaw02_awake.f).bind fun t116 => (some t116)) else (some false))) else (some false)) else (some false)) = some r := H
        have A14 := Aside0.mk A140
        clear A140
        by_cases c15 : t112 = t114
        · rw [if_pos c15] at H
          have c15b0 : (t112 == t114) = true := beq_iff_eq.mpr c15
          have c15b1 : (t112 != t114) = false := bne_eq_false_iff_eq.mpr c15
          clear c15
          by_cases c16 : t107 = t109
          · rw [if_pos c16] at H
            have c16b0 : (t107 == t109) = true := beq_iff_eq.mpr c16
            have c16b1 : (t107 != t109) = false := bne_eq_false_iff_eq.mpr c16
            clear c16
            replace H := Option.bind_eq_some_iff.mp H
            obtain ⟨t115, A170, H⟩ := H
            replace H : (if t115 = true then ((mooringlaw02_awake.f).bind fun t116 => (some t116)) else (some false)) = some r := H
            have A17 := Aside0.mk A170
            clear A170
            by_cases c18 : t115 = true
            · subst c18
              have H1 : ((mooringlaw02_awake.f).bind fun t116 => (some t116)) = some r := by rw [if_pos rfl] at H; exact H
              clear H
              have H := H1
              clear H1
              replace H := Option.bind_eq_some_iff.mp H
              obtain ⟨t116, A190, H⟩ := H
              replace H : (some t116) = some r := H
              have A19 := Aside0.mk A190
              clear A190
              obtain rfl := Option.some.inj H
              go_wp2_with (first | ((with_reducible refine gate_callee (f := 64) rfl ?_); refine goesL_ (some 21) rfl rfl Try.func64 (by kernel_rfl) rfl #[.slice A0 l0.length c0, .slice A1 l1.length c1] rfl (by (try simp only [List.map_toArray, List.map_cons, List.map_nil]); first | done | rfl | (simp only [List.length_drop, List.length_take]; rfl)) ?_; (with_reducible refine (matrix_Mul.calls kj2 _ _ l0 _ _ l1 t104 t107 _ ?side1 ?side2 ?side3 ?side4 A10.out).mono ?_); (case side1 => repeat (first | exact (Kd.C_below HR0.out HB.out) | (with_reducible refine Kd.C_alloc ?_ _) | (with_reducible refine Kd.C_drewN ?_ _) | (with_reducible refine Kd.C_drew ?_))); (case side2 => exact HC0.out); (case side3 => repeat (first | exact (Kd.C_below HR1.out HB.out) | (with_reducible refine Kd.C_alloc ?_ _) | (with_reducible refine Kd.C_drewN ?_ _) | (with_reducible refine Kd.C_drew ?_))); (case side4 => exact HC1.out); rintro e w20 ⟨v105, rfl, ho0, hb⟩; refine ⟨_, rfl, ?_⟩; have n0_ := Aside0.mk (Kd.N_lower (Kd.N_mono (ok' := fun k_ => True) ho0 (fun k_ hk_ => trivial)) (below_size (by repeat (first | (with_reducible first | exact HB.out | apply below_alloc | apply pw_below_drewN | apply below_drew1) | exact HB.out)))); have n1_ := Aside0.mk (below_step (by repeat (first | (with_reducible first | exact HB.out | apply below_alloc | apply pw_below_drewN | apply below_drew1) | exact HB.out)) hb); clear HB; have HO106 := n0_; have HB := n1_; clear n0_ n1_; (try clear hb); (try clear hb2); (try clear hk); (try clear hi); (try clear ho0)) | ((with_reducible refine gate_callee (f := 55) rfl ?_); refine goesL_ (some 27) rfl rfl Try.func55 (by kernel_rfl) rfl #[.slice A0 l0.length c0, .slice A1 l1.length c1] rfl (by (try simp only [List.map_toArray, List.map_cons, List.map_nil]); first | done | rfl | (simp only [List.length_drop, List.length_take]; rfl)) ?_; (with_reducible refine (mooringref02_Mul.calls kj2 _ _ l0 _ _ l1 t108 t109 _ ?side1 ?side2 ?side3 ?side4 A11.out).mono ?_); (case side1 => repeat (first | exact (Kd.C_below HR0.out HB.out) | (with_reducible refine Kd.C_alloc ?_ _) | (with_reducible refine Kd.C_drewN ?_ _) | (with_reducible refine Kd.C_drew ?_))); (case side2 => exact HC0.out); (case side3 => repeat (first | exact (Kd.C_below HR1.out HB.out) | (with_reducible refine Kd.C_alloc ?_ _) | (with_reducible refine Kd.C_drewN ?_ _) | (with_reducible refine Kd.C_drew ?_))); (case side4 => exact HC1.out); rintro e w21 ⟨v110, rfl, ho0, hb⟩; refine ⟨_, rfl, ?_⟩; have n0_ := Aside0.mk (Kd.N_elder' (by (with_reducible repeat (first | apply Kd.N_alloc | apply Kd.N_drewN | apply Kd.N_drew)); exact HO106.out) (by first | exact Kd.N_base ho0 | exact Kd.S_base ho0) hb); have n1_ := Aside0.mk (Kd.N_lower (Kd.N_mono (ok' := fun k_ => some k_ ≠ (v105 : Value).ownBlock) (Kd.S_N (Kd.S_bound ho0)) (fun k_ hk_ => (Kd.fresh' (Kd.N_lt (by (with_reducible repeat (first | apply Kd.N_alloc | apply Kd.N_drewN | apply Kd.N_drew)); exact HO106.out)) k_ hk_.2.1))) (below_size (by repeat (first | (with_reducible first | exact HB.out | apply below_alloc | apply pw_below_drewN | apply below_drew1) | exact HB.out)))); have n2_ := Aside0.mk (below_step (by repeat (first | (with_reducible first | exact HB.out | apply below_alloc | apply pw_below_drewN | apply below_drew1) | exact HB.out)) hb); clear HO106; clear HB; have HO106 := n0_; have HO111 := n1_; have HB := n2_; clear n0_ n1_ n2_; (try clear hb); (try clear hb2); (try clear hk); (try clear hi); (try clear ho0)) | ((with_reducible refine gate_callee (f := 65) rfl ?_); refine goesL_ (some 31) rfl rfl Try.func65 (by kernel_rfl) rfl #[.slice A0 l0.length c0] rfl (by (try simp only [List.map_toArray, List.map_cons, List.map_nil]); first | done | rfl | (simp only [List.length_drop, List.length_take]; rfl)) ?_; (with_reducible refine (matrix_Check.calls kj2 _ _ l0 t112 _ ?side1 ?side2 A12.out).mono ?_); (case side1 => repeat (first | exact (Kd.C_below HR0.out HB.out) | (with_reducible refine Kd.C_alloc ?_ _) | (with_reducible refine Kd.C_drewN ?_ _) | (with_reducible refine Kd.C_drew ?_))); (case side2 => exact HC0.out); rintro e w' ⟨rfl, ⟨nd, rfl⟩⟩; refine ⟨_, rfl, ?_⟩) | ((with_reducible refine gate_callee (f := 53) rfl ?_); refine goesL_ (some 33) rfl rfl Try.func53 (by kernel_rfl) rfl #[.slice A0 l0.length c0] rfl (by (try simp only [List.map_toArray, List.map_cons, List.map_nil]); first | done | rfl | (simp only [List.length_drop, List.length_take]; rfl)) ?_; (with_reducible refine (mooringref02_May.calls kj2 _ _ l0 t113 _ ?side1 ?side2 A13.out).mono ?_); (case side1 => repeat (first | exact (Kd.C_below HR0.out (by repeat (first | (with_reducible first | exact HB.out | apply below_alloc | apply pw_below_drewN | apply below_drew1) | exact HB.out))) | (with_reducible refine Kd.C_alloc ?_ _) | (with_reducible refine Kd.C_drewN ?_ _) | (with_reducible refine Kd.C_drew ?_))); (case side2 => exact HC0.out); rintro e w' ⟨rfl, ⟨nd, rfl⟩⟩; refine ⟨_, rfl, ?_⟩) | ((with_reducible refine gate_callee (f := 66) rfl ?_); refine goesL_ (some 34) rfl rfl Try.func66 (by kernel_rfl) rfl #[.bool t113] rfl (by (try simp only [List.map_toArray, List.map_cons, List.map_nil]); first | done | rfl | (simp only [List.length_drop, List.length_take]; rfl)) ?_; (with_reducible refine (mooringlaw02_errno.calls t113 t114 _ A14.out).mono ?_); rintro e w' ⟨rfl, ⟨nd, rfl⟩⟩; refine ⟨_, rfl, ?_⟩; obtain ⟨Ao22, co22, eo22⟩ := Kd.N_slice HO106.out; subst eo22; obtain ⟨Ao23, co23, eo23⟩ := Kd.N_slice HO111.out; subst eo23) | (go_at_call 57; (with_reducible refine (mooringref02_Same.calls kj2 _ _ t104 _ _ t108 true _ ?side1 ?side2 ?side3 ?side4 A17.out).mono ?_); (case side1 => repeat (first | exact (Kd.N_reads' HO106.out).2.2 | (with_reducible refine Kd.C_alloc ?_ _) | (with_reducible refine Kd.C_drewN ?_ _) | (with_reducible refine Kd.C_drew ?_))); (case side2 => exact (Kd.N_reads' HO106.out).2.1); (case side3 => repeat (first | exact (Kd.N_reads' HO111.out).2.2 | (with_reducible refine Kd.C_alloc ?_ _) | (with_reducible refine Kd.C_drewN ?_ _) | (with_reducible refine Kd.C_drew ?_))); (case side4 => exact (Kd.N_reads' HO111.out).2.1); rintro e w' ⟨rfl, ⟨nd, rfl⟩⟩) | (go_at_call 51; (with_reducible refine (mooringlaw02_awake.calls  t116 _ A19.out).mono ?_); rintro e w24 ⟨rfl, hb⟩; have n0_ := Aside0.mk (Kd.N_below (by (with_reducible repeat (first | apply Kd.N_alloc | apply Kd.N_drewN | apply Kd.N_drew)); exact HO106.out) hb); have n1_ := Aside0.mk (Kd.N_below (by (with_reducible repeat (first | apply Kd.N_alloc | apply Kd.N_drewN | apply Kd.N_drew)); exact HO111.out) hb); have n2_ := Aside0.mk (below_step (by repeat (first | (with_reducible first | exact HB.out | apply below_alloc | apply pw_below_drewN | apply below_drew1) | exact HB.out)) hb); clear HO106; clear HO111; clear HB; have HO106 := n0_; have HO111 := n1_; have HB := n2_; clear n0_ n1_ n2_; (try clear hb); (try clear hb2); (try clear hk); (try clear hi)))
              go_ret
              exact ⟨by first | rfl | (simp [errW_none, errW_some] <;> rfl) | (simp [*, errW_none, errW_some] <;> rfl), by repeat (first | (with_reducible first | exact HB.out | apply below_alloc | apply pw_below_drewN | apply below_drew1) | exact HB.out)⟩
            · replace c18 := Bool.eq_false_iff.mpr c18
              subst c18
              have H1 : (some false) = some r := by rw [if_neg (show ¬ (false = true) by decide)] at H; exact H
              clear H
              have H := H1
              clear H1
              obtain rfl := Option.some.inj H
              go_wp2_with (first | ((with_reducible refine gate_callee (f := 64) rfl ?_); refine goesL_ (some 21) rfl rfl Try.func64 (by kernel_rfl) rfl #[.slice A0 l0.length c0, .slice A1 l1.length c1] rfl (by (try simp only [List.map_toArray, List.map_cons, List.map_nil]); first | done | rfl | (simp only [List.length_drop, List.length_take]; rfl)) ?_; (with_reducible refine (matrix_Mul.calls kj2 _ _ l0 _ _ l1 t104 t107 _ ?side1 ?side2 ?side3 ?side4 A10.out).mono ?_); (case side1 => repeat (first | exact (Kd.C_below HR0.out HB.out) | (with_reducible refine Kd.C_alloc ?_ _) | (with_reducible refine Kd.C_drewN ?_ _) | (with_reducible refine Kd.C_drew ?_))); (case side2 => exact HC0.out); (case side3 => repeat (first | exact (Kd.C_below HR1.out HB.out) | (with_reducible refine Kd.C_alloc ?_ _) | (with_reducible refine Kd.C_drewN ?_ _) | (with_reducible refine Kd.C_drew ?_))); (case side4 => exact HC1.out); rintro e w25 ⟨v105, rfl, ho0, hb⟩; refine ⟨_, rfl, ?_⟩; have n0_ := Aside0.mk (Kd.N_lower (Kd.N_mono (ok' := fun k_ => True) ho0 (fun k_ hk_ => trivial)) (below_size (by repeat (first | (with_reducible first | exact HB.out | apply below_alloc | apply pw_below_drewN | apply below_drew1) | exact HB.out)))); have n1_ := Aside0.mk (below_step (by repeat (first | (with_reducible first | exact HB.out | apply below_alloc | apply pw_below_drewN | apply below_drew1) | exact HB.out)) hb); clear HB; have HO106 := n0_; have HB := n1_; clear n0_ n1_; (try clear hb); (try clear hb2); (try clear hk); (try clear hi); (try clear ho0)) | ((with_reducible refine gate_callee (f := 55) rfl ?_); refine goesL_ (some 27) rfl rfl Try.func55 (by kernel_rfl) rfl #[.slice A0 l0.length c0, .slice A1 l1.length c1] rfl (by (try simp only [List.map_toArray, List.map_cons, List.map_nil]); first | done | rfl | (simp only [List.length_drop, List.length_take]; rfl)) ?_; (with_reducible refine (mooringref02_Mul.calls kj2 _ _ l0 _ _ l1 t108 t109 _ ?side1 ?side2 ?side3 ?side4 A11.out).mono ?_); (case side1 => repeat (first | exact (Kd.C_below HR0.out HB.out) | (with_reducible refine Kd.C_alloc ?_ _) | (with_reducible refine Kd.C_drewN ?_ _) | (with_reducible refine Kd.C_drew ?_))); (case side2 => exact HC0.out); (case side3 => repeat (first | exact (Kd.C_below HR1.out HB.out) | (with_reducible refine Kd.C_alloc ?_ _) | (with_reducible refine Kd.C_drewN ?_ _) | (with_reducible refine Kd.C_drew ?_))); (case side4 => exact HC1.out); rintro e w26 ⟨v110, rfl, ho0, hb⟩; refine ⟨_, rfl, ?_⟩; have n0_ := Aside0.mk (Kd.N_elder' (by (with_reducible repeat (first | apply Kd.N_alloc | apply Kd.N_drewN | apply Kd.N_drew)); exact HO106.out) (by first | exact Kd.N_base ho0 | exact Kd.S_base ho0) hb); have n1_ := Aside0.mk (Kd.N_lower (Kd.N_mono (ok' := fun k_ => some k_ ≠ (v105 : Value).ownBlock) (Kd.S_N (Kd.S_bound ho0)) (fun k_ hk_ => (Kd.fresh' (Kd.N_lt (by (with_reducible repeat (first | apply Kd.N_alloc | apply Kd.N_drewN | apply Kd.N_drew)); exact HO106.out)) k_ hk_.2.1))) (below_size (by repeat (first | (with_reducible first | exact HB.out | apply below_alloc | apply pw_below_drewN | apply below_drew1) | exact HB.out)))); have n2_ := Aside0.mk (below_step (by repeat (first | (with_reducible first | exact HB.out | apply below_alloc | apply pw_below_drewN | apply below_drew1) | exact HB.out)) hb); clear HO106; clear HB; have HO106 := n0_; have HO111 := n1_; have HB := n2_; clear n0_ n1_ n2_; (try clear hb); (try clear hb2); (try clear hk); (try clear hi); (try clear ho0)) | ((with_reducible refine gate_callee (f := 65) rfl ?_); refine goesL_ (some 31) rfl rfl Try.func65 (by kernel_rfl) rfl #[.slice A0 l0.length c0] rfl (by (try simp only [List.map_toArray, List.map_cons, List.map_nil]); first | done | rfl | (simp only [List.length_drop, List.length_take]; rfl)) ?_; (with_reducible refine (matrix_Check.calls kj2 _ _ l0 t112 _ ?side1 ?side2 A12.out).mono ?_); (case side1 => repeat (first | exact (Kd.C_below HR0.out HB.out) | (with_reducible refine Kd.C_alloc ?_ _) | (with_reducible refine Kd.C_drewN ?_ _) | (with_reducible refine Kd.C_drew ?_))); (case side2 => exact HC0.out); rintro e w' ⟨rfl, ⟨nd, rfl⟩⟩; refine ⟨_, rfl, ?_⟩) | ((with_reducible refine gate_callee (f := 53) rfl ?_); refine goesL_ (some 33) rfl rfl Try.func53 (by kernel_rfl) rfl #[.slice A0 l0.length c0] rfl (by (try simp only [List.map_toArray, List.map_cons, List.map_nil]); first | done | rfl | (simp only [List.length_drop, List.length_take]; rfl)) ?_; (with_reducible refine (mooringref02_May.calls kj2 _ _ l0 t113 _ ?side1 ?side2 A13.out).mono ?_); (case side1 => repeat (first | exact (Kd.C_below HR0.out (by repeat (first | (with_reducible first | exact HB.out | apply below_alloc | apply pw_below_drewN | apply below_drew1) | exact HB.out))) | (with_reducible refine Kd.C_alloc ?_ _) | (with_reducible refine Kd.C_drewN ?_ _) | (with_reducible refine Kd.C_drew ?_))); (case side2 => exact HC0.out); rintro e w' ⟨rfl, ⟨nd, rfl⟩⟩; refine ⟨_, rfl, ?_⟩) | ((with_reducible refine gate_callee (f := 66) rfl ?_); refine goesL_ (some 34) rfl rfl Try.func66 (by kernel_rfl) rfl #[.bool t113] rfl (by (try simp only [List.map_toArray, List.map_cons, List.map_nil]); first | done | rfl | (simp only [List.length_drop, List.length_take]; rfl)) ?_; (with_reducible refine (mooringlaw02_errno.calls t113 t114 _ A14.out).mono ?_); rintro e w' ⟨rfl, ⟨nd, rfl⟩⟩; refine ⟨_, rfl, ?_⟩; obtain ⟨Ao27, co27, eo27⟩ := Kd.N_slice HO106.out; subst eo27; obtain ⟨Ao28, co28, eo28⟩ := Kd.N_slice HO111.out; subst eo28) | (go_at_call 57; (with_reducible refine (mooringref02_Same.calls kj2 _ _ t104 _ _ t108 false _ ?side1 ?side2 ?side3 ?side4 A17.out).mono ?_); (case side1 => repeat (first | exact (Kd.N_reads' HO106.out).2.2 | (with_reducible refine Kd.C_alloc ?_ _) | (with_reducible refine Kd.C_drewN ?_ _) | (with_reducible refine Kd.C_drew ?_))); (case side2 => exact (Kd.N_reads' HO106.out).2.1); (case side3 => repeat (first | exact (Kd.N_reads' HO111.out).2.2 | (with_reducible refine Kd.C_alloc ?_ _) | (with_reducible refine Kd.C_drewN ?_ _) | (with_reducible refine Kd.C_drew ?_))); (case side4 => exact (Kd.N_reads' HO111.out).2.1); rintro e w' ⟨rfl, ⟨nd, rfl⟩⟩))
              go_ret
              exact ⟨by first | rfl | (simp [errW_none, errW_some] <;> rfl) | (simp [*, errW_none, errW_some] <;> rfl), by repeat (first | (with_reducible first | exact HB.out | apply below_alloc | apply pw_below_drewN | apply below_drew1) | exact HB.out)⟩
          · rw [if_neg c16] at H
            have c16b0 : (t107 == t109) = false := beq_eq_false_iff_ne.mpr c16
            have c16b1 : (t107 != t109) = true := bne_iff_ne.mpr c16
            obtain rfl := Option.some.inj H
            go_wp2_with (first | ((with_reducible refine gate_callee (f := 64) rfl ?_); refine goesL_ (some 21) rfl rfl Try.func64 (by kernel_rfl) rfl #[.slice A0 l0.length c0, .slice A1 l1.length c1] rfl (by (try simp only [List.map_toArray, List.map_cons, List.map_nil]); first | done | rfl | (simp only [List.length_drop, List.length_take]; rfl)) ?_; (with_reducible refine (matrix_Mul.calls kj2 _ _ l0 _ _ l1 t104 t107 _ ?side1 ?side2 ?side3 ?side4 A10.out).mono ?_); (case side1 => repeat (first | exact (Kd.C_below HR0.out HB.out) | (with_reducible refine Kd.C_alloc ?_ _) | (with_reducible refine Kd.C_drewN ?_ _) | (with_reducible refine Kd.C_drew ?_))); (case side2 => exact HC0.out); (case side3 => repeat (first | exact (Kd.C_below HR1.out HB.out) | (with_reducible refine Kd.C_alloc ?_ _) | (with_reducible refine Kd.C_drewN ?_ _) | (with_reducible refine Kd.C_drew ?_))); (case side4 => exact HC1.out); rintro e w29 ⟨v105, rfl, ho0, hb⟩; refine ⟨_, rfl, ?_⟩; have n0_ := Aside0.mk (Kd.N_lower (Kd.N_mono (ok' := fun k_ => True) ho0 (fun k_ hk_ => trivial)) (below_size (by repeat (first | (with_reducible first | exact HB.out | apply below_alloc | apply pw_below_drewN | apply below_drew1) | exact HB.out)))); have n1_ := Aside0.mk (below_step (by repeat (first | (with_reducible first | exact HB.out | apply below_alloc | apply pw_below_drewN | apply below_drew1) | exact HB.out)) hb); clear HB; have HO106 := n0_; have HB := n1_; clear n0_ n1_; (try clear hb); (try clear hb2); (try clear hk); (try clear hi); (try clear ho0)) | ((with_reducible refine gate_callee (f := 55) rfl ?_); refine goesL_ (some 27) rfl rfl Try.func55 (by kernel_rfl) rfl #[.slice A0 l0.length c0, .slice A1 l1.length c1] rfl (by (try simp only [List.map_toArray, List.map_cons, List.map_nil]); first | done | rfl | (simp only [List.length_drop, List.length_take]; rfl)) ?_; (with_reducible refine (mooringref02_Mul.calls kj2 _ _ l0 _ _ l1 t108 t109 _ ?side1 ?side2 ?side3 ?side4 A11.out).mono ?_); (case side1 => repeat (first | exact (Kd.C_below HR0.out HB.out) | (with_reducible refine Kd.C_alloc ?_ _) | (with_reducible refine Kd.C_drewN ?_ _) | (with_reducible refine Kd.C_drew ?_))); (case side2 => exact HC0.out); (case side3 => repeat (first | exact (Kd.C_below HR1.out HB.out) | (with_reducible refine Kd.C_alloc ?_ _) | (with_reducible refine Kd.C_drewN ?_ _) | (with_reducible refine Kd.C_drew ?_))); (case side4 => exact HC1.out); rintro e w30 ⟨v110, rfl, ho0, hb⟩; refine ⟨_, rfl, ?_⟩; have n0_ := Aside0.mk (Kd.N_elder' (by (with_reducible repeat (first | apply Kd.N_alloc | apply Kd.N_drewN | apply Kd.N_drew)); exact HO106.out) (by first | exact Kd.N_base ho0 | exact Kd.S_base ho0) hb); have n1_ := Aside0.mk (Kd.N_lower (Kd.N_mono (ok' := fun k_ => some k_ ≠ (v105 : Value).ownBlock) (Kd.S_N (Kd.S_bound ho0)) (fun k_ hk_ => (Kd.fresh' (Kd.N_lt (by (with_reducible repeat (first | apply Kd.N_alloc | apply Kd.N_drewN | apply Kd.N_drew)); exact HO106.out)) k_ hk_.2.1))) (below_size (by repeat (first | (with_reducible first | exact HB.out | apply below_alloc | apply pw_below_drewN | apply below_drew1) | exact HB.out)))); have n2_ := Aside0.mk (below_step (by repeat (first | (with_reducible first | exact HB.out | apply below_alloc | apply pw_below_drewN | apply below_drew1) | exact HB.out)) hb); clear HO106; clear HB; have HO106 := n0_; have HO111 := n1_; have HB := n2_; clear n0_ n1_ n2_; (try clear hb); (try clear hb2); (try clear hk); (try clear hi); (try clear ho0)) | ((with_reducible refine gate_callee (f := 65) rfl ?_); refine goesL_ (some 31) rfl rfl Try.func65 (by kernel_rfl) rfl #[.slice A0 l0.length c0] rfl (by (try simp only [List.map_toArray, List.map_cons, List.map_nil]); first | done | rfl | (simp only [List.length_drop, List.length_take]; rfl)) ?_; (with_reducible refine (matrix_Check.calls kj2 _ _ l0 t112 _ ?side1 ?side2 A12.out).mono ?_); (case side1 => repeat (first | exact (Kd.C_below HR0.out HB.out) | (with_reducible refine Kd.C_alloc ?_ _) | (with_reducible refine Kd.C_drewN ?_ _) | (with_reducible refine Kd.C_drew ?_))); (case side2 => exact HC0.out); rintro e w' ⟨rfl, ⟨nd, rfl⟩⟩; refine ⟨_, rfl, ?_⟩) | ((with_reducible refine gate_callee (f := 53) rfl ?_); refine goesL_ (some 33) rfl rfl Try.func53 (by kernel_rfl) rfl #[.slice A0 l0.length c0] rfl (by (try simp only [List.map_toArray, List.map_cons, List.map_nil]); first | done | rfl | (simp only [List.length_drop, List.length_take]; rfl)) ?_; (with_reducible refine (mooringref02_May.calls kj2 _ _ l0 t113 _ ?side1 ?side2 A13.out).mono ?_); (case side1 => repeat (first | exact (Kd.C_below HR0.out (by repeat (first | (with_reducible first | exact HB.out | apply below_alloc | apply pw_below_drewN | apply below_drew1) | exact HB.out))) | (with_reducible refine Kd.C_alloc ?_ _) | (with_reducible refine Kd.C_drewN ?_ _) | (with_reducible refine Kd.C_drew ?_))); (case side2 => exact HC0.out); rintro e w' ⟨rfl, ⟨nd, rfl⟩⟩; refine ⟨_, rfl, ?_⟩) | ((with_reducible refine gate_callee (f := 66) rfl ?_); refine goesL_ (some 34) rfl rfl Try.func66 (by kernel_rfl) rfl #[.bool t113] rfl (by (try simp only [List.map_toArray, List.map_cons, List.map_nil]); first | done | rfl | (simp only [List.length_drop, List.length_take]; rfl)) ?_; (with_reducible refine (mooringlaw02_errno.calls t113 t114 _ A14.out).mono ?_); rintro e w' ⟨rfl, ⟨nd, rfl⟩⟩; refine ⟨_, rfl, ?_⟩))
            go_ret
            exact ⟨by first | rfl | (simp [errW_none, errW_some] <;> rfl) | (simp [*, errW_none, errW_some] <;> rfl), by repeat (first | (with_reducible first | exact HB.out | apply below_alloc | apply pw_below_drewN | apply below_drew1) | exact HB.out)⟩
        · rw [if_neg c15] at H
          have c15b0 : (t112 == t114) = false := beq_eq_false_iff_ne.mpr c15
          have c15b1 : (t112 != t114) = true := bne_iff_ne.mpr c15
          obtain rfl := Option.some.inj H
          go_wp2_with (first | ((with_reducible refine gate_callee (f := 64) rfl ?_); refine goesL_ (some 21) rfl rfl Try.func64 (by kernel_rfl) rfl #[.slice A0 l0.length c0, .slice A1 l1.length c1] rfl (by (try simp only [List.map_toArray, List.map_cons, List.map_nil]); first | done | rfl | (simp only [List.length_drop, List.length_take]; rfl)) ?_; (with_reducible refine (matrix_Mul.calls kj2 _ _ l0 _ _ l1 t104 t107 _ ?side1 ?side2 ?side3 ?side4 A10.out).mono ?_); (case side1 => repeat (first | exact (Kd.C_below HR0.out HB.out) | (with_reducible refine Kd.C_alloc ?_ _) | (with_reducible refine Kd.C_drewN ?_ _) | (with_reducible refine Kd.C_drew ?_))); (case side2 => exact HC0.out); (case side3 => repeat (first | exact (Kd.C_below HR1.out HB.out) | (with_reducible refine Kd.C_alloc ?_ _) | (with_reducible refine Kd.C_drewN ?_ _) | (with_reducible refine Kd.C_drew ?_))); (case side4 => exact HC1.out); rintro e w31 ⟨v105, rfl, ho0, hb⟩; refine ⟨_, rfl, ?_⟩; have n0_ := Aside0.mk (Kd.N_lower (Kd.N_mono (ok' := fun k_ => True) ho0 (fun k_ hk_ => trivial)) (below_size (by repeat (first | (with_reducible first | exact HB.out | apply below_alloc | apply pw_below_drewN | apply below_drew1) | exact HB.out)))); have n1_ := Aside0.mk (below_step (by repeat (first | (with_reducible first | exact HB.out | apply below_alloc | apply pw_below_drewN | apply below_drew1) | exact HB.out)) hb); clear HB; have HO106 := n0_; have HB := n1_; clear n0_ n1_; (try clear hb); (try clear hb2); (try clear hk); (try clear hi); (try clear ho0)) | ((with_reducible refine gate_callee (f := 55) rfl ?_); refine goesL_ (some 27) rfl rfl Try.func55 (by kernel_rfl) rfl #[.slice A0 l0.length c0, .slice A1 l1.length c1] rfl (by (try simp only [List.map_toArray, List.map_cons, List.map_nil]); first | done | rfl | (simp only [List.length_drop, List.length_take]; rfl)) ?_; (with_reducible refine (mooringref02_Mul.calls kj2 _ _ l0 _ _ l1 t108 t109 _ ?side1 ?side2 ?side3 ?side4 A11.out).mono ?_); (case side1 => repeat (first | exact (Kd.C_below HR0.out HB.out) | (with_reducible refine Kd.C_alloc ?_ _) | (with_reducible refine Kd.C_drewN ?_ _) | (with_reducible refine Kd.C_drew ?_))); (case side2 => exact HC0.out); (case side3 => repeat (first | exact (Kd.C_below HR1.out HB.out) | (with_reducible refine Kd.C_alloc ?_ _) | (with_reducible refine Kd.C_drewN ?_ _) | (with_reducible refine Kd.C_drew ?_))); (case side4 => exact HC1.out); rintro e w32 ⟨v110, rfl, ho0, hb⟩; refine ⟨_, rfl, ?_⟩; have n0_ := Aside0.mk (Kd.N_elder' (by (with_reducible repeat (first | apply Kd.N_alloc | apply Kd.N_drewN | apply Kd.N_drew)); exact HO106.out) (by first | exact Kd.N_base ho0 | exact Kd.S_base ho0) hb); have n1_ := Aside0.mk (Kd.N_lower (Kd.N_mono (ok' := fun k_ => some k_ ≠ (v105 : Value).ownBlock) (Kd.S_N (Kd.S_bound ho0)) (fun k_ hk_ => (Kd.fresh' (Kd.N_lt (by (with_reducible repeat (first | apply Kd.N_alloc | apply Kd.N_drewN | apply Kd.N_drew)); exact HO106.out)) k_ hk_.2.1))) (below_size (by repeat (first | (with_reducible first | exact HB.out | apply below_alloc | apply pw_below_drewN | apply below_drew1) | exact HB.out)))); have n2_ := Aside0.mk (below_step (by repeat (first | (with_reducible first | exact HB.out | apply below_alloc | apply pw_below_drewN | apply below_drew1) | exact HB.out)) hb); clear HO106; clear HB; have HO106 := n0_; have HO111 := n1_; have HB := n2_; clear n0_ n1_ n2_; (try clear hb); (try clear hb2); (try clear hk); (try clear hi); (try clear ho0)) | ((with_reducible refine gate_callee (f := 65) rfl ?_); refine goesL_ (some 31) rfl rfl Try.func65 (by kernel_rfl) rfl #[.slice A0 l0.length c0] rfl (by (try simp only [List.map_toArray, List.map_cons, List.map_nil]); first | done | rfl | (simp only [List.length_drop, List.length_take]; rfl)) ?_; (with_reducible refine (matrix_Check.calls kj2 _ _ l0 t112 _ ?side1 ?side2 A12.out).mono ?_); (case side1 => repeat (first | exact (Kd.C_below HR0.out HB.out) | (with_reducible refine Kd.C_alloc ?_ _) | (with_reducible refine Kd.C_drewN ?_ _) | (with_reducible refine Kd.C_drew ?_))); (case side2 => exact HC0.out); rintro e w' ⟨rfl, ⟨nd, rfl⟩⟩; refine ⟨_, rfl, ?_⟩) | ((with_reducible refine gate_callee (f := 53) rfl ?_); refine goesL_ (some 33) rfl rfl Try.func53 (by kernel_rfl) rfl #[.slice A0 l0.length c0] rfl (by (try simp only [List.map_toArray, List.map_cons, List.map_nil]); first | done | rfl | (simp only [List.length_drop, List.length_take]; rfl)) ?_; (with_reducible refine (mooringref02_May.calls kj2 _ _ l0 t113 _ ?side1 ?side2 A13.out).mono ?_); (case side1 => repeat (first | exact (Kd.C_below HR0.out (by repeat (first | (with_reducible first | exact HB.out | apply below_alloc | apply pw_below_drewN | apply below_drew1) | exact HB.out))) | (with_reducible refine Kd.C_alloc ?_ _) | (with_reducible refine Kd.C_drewN ?_ _) | (with_reducible refine Kd.C_drew ?_))); (case side2 => exact HC0.out); rintro e w' ⟨rfl, ⟨nd, rfl⟩⟩; refine ⟨_, rfl, ?_⟩) | ((with_reducible refine gate_callee (f := 66) rfl ?_); refine goesL_ (some 34) rfl rfl Try.func66 (by kernel_rfl) rfl #[.bool t113] rfl (by (try simp only [List.map_toArray, List.map_cons, List.map_nil]); first | done | rfl | (simp only [List.length_drop, List.length_take]; rfl)) ?_; (with_reducible refine (mooringlaw02_errno.calls t113 t114 _ A14.out).mono ?_); rintro e w' ⟨rfl, ⟨nd, rfl⟩⟩; refine ⟨_, rfl, ?_⟩))
          go_ret
          exact ⟨by first | rfl | (simp [errW_none, errW_some] <;> rfl) | (simp [*, errW_none, errW_some] <;> rfl), by repeat (first | (with_reducible first | exact HB.out | apply below_alloc | apply pw_below_drewN | apply below_drew1) | exact HB.out)⟩

end Go.Proofs.Ytbogmlckbkogiaa.P

/- For any two slices of rows of bytes the program's Check and Mul answer as the reference's (the law MatrixMuls answers true). Conditions: none. -/
namespace Go.Proofs.Ytbogmlckbkogiaa.Pure
open Go.RowKit Go.Proofs.YtbogmlckbkogiaaW.PrintWords Go.Proofs.Ytbogmlckbkogiaa.Leaf Go.Proofs.Ytbogmlckbkogiaa.P Go.Proofs.Ytbogmlckbkogiaa.Gf Go.Proofs.Ytbogmlckbkogiaa.Red Go.Proofs.Ytbogmlckbkogiaa.H
set_option linter.unusedSimpArgs false
set_option linter.unusedVariables false
def lightB (A : Mat) : Bool := decide (A.length ≤ 40) && (decide (A.length = 0) || decide ((row A 0).length ≤ 40))
theorem light_eq (A : Mat) : mooringlaw02_light.f (oM A) = some (lightB A) := by
  unfold mooringlaw02_light.f lightB
  simp only [oM_length, rd_oM0, ofL_length]
  by_cases h1 : A.length ≤ 40
  · rw [if_pos (by omega), decide_eq_true h1]
    by_cases h2 : A.length = 0
    · rw [if_pos (by omega), decide_eq_true h2]; rfl
    · rw [if_neg (by omega), if_pos (by omega), decide_eq_false h2]
      simp only [Bool.true_and, Bool.false_or, Option.some.injEq]
      by_cases h3 : (row A 0).length ≤ 40
      · rw [decide_eq_true h3, decide_eq_true (by omega)]
      · rw [decide_eq_false h3, decide_eq_false (by omega)]
  · rw [if_neg (by omega), decide_eq_false h1]; rfl
theorem mulR_oM (A C : Mat) : ∃ X, (mulR A C).1 = oM X ∧ X.length ≤ 255 := by
  unfold mulR
  by_cases h : mayB A = true ∧ mayB C = true ∧ (row A 0).length = C.length
  · rw [if_pos h]
    have := (mayB_reg h.1).2.2.1
    exact ⟨_, rfl, by unfold mulM; rw [(matF_reg _ _ _).1]; exact this⟩
  · rw [if_neg h]
    exact ⟨[], rfl, by decide⟩
theorem MatrixMuls (A : Mat) (hs : A.length * 24 ≤ 140737488351232) (hr : ∀ i, i < A.length → (row A i).length ≤ 140737488351232) (C : Mat) (hs2 : C.length * 24 ≤ 140737488351232) (hr2 : ∀ i, i < C.length → (row C i).length ≤ 140737488351232) :
    Ev (fun k => mooringlaw02_MatrixMuls.f k (oM A) (oM C)) true := by
  have j1 : Ev (fun k => mooringlaw02_MatrixMuls.j0 k (oM A) (oM C) true) true := Ev.step (f := fun _ => some true) (fun k => by simp only [mooringlaw02_MatrixMuls.j0, if_true, mooringlaw02_awake.f, Option.bind_some]) (Ev.now _)
  unfold mooringlaw02_MatrixMuls.f
  simp only [light_eq, Option.bind_some]
  cases h1 : lightB A with
  | false => simp only [Bool.false_eq_true, if_false]; exact j1
  | true =>
    simp only [if_true]
    cases h2 : lightB C with
    | false => exact j1
    | true =>
      obtain ⟨X, hX, hXl⟩ := mulR_oM A C
      refine Ev.step (f := fun k => (matrix_Mul.f k (oM A) (oM C)).bind fun bt104 => (mooringref02_Mul.f k (oM A) (oM C)).bind fun bt108 => (matrix_Check.f k (oM A)).bind fun t112 => (mooringref02_May.f k (oM A)).bind fun t113 => (mooringlaw02_errno.f t113).bind fun t114 => if t112 = t114 then (if bt104.2 = bt108.2 then (mooringref02_Same.f k bt104.1 bt108.1).bind fun t115 => if t115 = true then (mooringlaw02_awake.f).bind fun t116 => some t116 else some false else some false) else some false) (fun k => by simp only [mooringlaw02_MatrixMuls.j0, Bool.not_true, Bool.false_eq_true, if_false]) ?_
      refine Ev.bind (evMul A C (by omega) (by omega)) ?_
      refine Ev.bind (evRefMul A C (by omega) (by omega)) ?_
      refine Ev.bind (evCheck A (by omega)) ?_
      refine Ev.bind (evMay A (by omega)) ?_
      have he : mooringlaw02_errno.f (mayB A) = some (if mayB A = true then 0 else 1) := by unfold mooringlaw02_errno.f; cases mayB A <;> rfl
      simp only [he, Option.bind_some, if_true, hX]
      refine Ev.bind (evSame X X (by omega)) ?_
      simp only [decide_true, if_true, mooringlaw02_awake.f, Option.bind_some]
      exact Ev.now _
end Go.Proofs.Ytbogmlckbkogiaa.Pure

/- Products of three matrices may be put together in either order (the law MatrixOrders answers true). Conditions: none. -/
namespace Go.Proofs.Ytbogmlckbkogiaa.Pure
open Go.RowKit Go.Proofs.YtbogmlckbkogiaaW.PrintWords Go.Proofs.Ytbogmlckbkogiaa.Leaf Go.Proofs.Ytbogmlckbkogiaa.P Go.Proofs.Ytbogmlckbkogiaa.Gf Go.Proofs.Ytbogmlckbkogiaa.Red Go.Proofs.Ytbogmlckbkogiaa.H Go.Proofs.Ytbogmlckbkogiaa.Mx
set_option linter.unusedSimpArgs false
set_option linter.unusedVariables false
theorem mulM_reg {A C : Mat} {n m p : Nat} (hA : Reg A n m) (hC : Reg C m p) (hm : 0 < m) : Reg (mulM A C) n p := by
  unfold mulM
  rw [hA.1, hC.2 0 hm]
  exact matF_reg n p _
theorem el_mulM {A C : Mat} {n m p : Nat} (hA : Reg A n m) (hC : Reg C m p) (hm : 0 < m) {i j : Nat} (hi : i < n) (hj : j < p) : el (mulM A C) i j = mm m (el A) (el C) i j := by
  unfold mulM
  rw [hA.1, hC.1, hC.2 0 hm, el_matF _ hi hj]
theorem mulM_assoc {A C D : Mat} {n m p q : Nat} (hA : Reg A n m) (hC : Reg C m p) (hD : Reg D p q) (hm : 0 < m) (hp : 0 < p) : mulM (mulM A C) D = mulM A (mulM C D) := by
  refine mat_ext (mulM_reg (mulM_reg hA hC hm) hD hp) (mulM_reg hA (mulM_reg hC hD hp) hm) fun i j hi hj => ?_
  rw [el_mulM (mulM_reg hA hC hm) hD hp hi hj, el_mulM hA (mulM_reg hC hD hp) hm hi hj]
  refine (mm_congr (fun k hk => el_mulM hA hC hm hi hk) (fun _ _ => rfl)).trans ?_
  rw [mm_assoc]
  exact mm_congr (fun _ _ => rfl) (fun k hk => (el_mulM hC hD hp hk hj).symm)
theorem mulR_ok {A C : Mat} (h : (mulR A C).2 = 0) : mayB A = true ∧ mayB C = true ∧ (row A 0).length = C.length ∧ (mulR A C) = (oM (mulM A C), 0) := by
  unfold mulR at h ⊢
  by_cases h1 : mayB A = true ∧ mayB C = true ∧ (row A 0).length = C.length
  · rw [if_pos h1]
    exact ⟨h1.1, h1.2.1, h1.2.2, rfl⟩
  · rw [if_neg h1] at h
    exact absurd h (by decide)
theorem MatrixOrders (A : Mat) (hs : A.length * 24 ≤ 140737488351232) (hr : ∀ i, i < A.length → (row A i).length ≤ 140737488351232) (C : Mat) (hs2 : C.length * 24 ≤ 140737488351232) (hr2 : ∀ i, i < C.length → (row C i).length ≤ 140737488351232) (D : Mat) (hs3 : D.length * 24 ≤ 140737488351232) (hr3 : ∀ i, i < D.length → (row D i).length ≤ 140737488351232) :
    Ev (fun k => mooringlaw02_MatrixOrders.f k (oM A) (oM C) (oM D)) true := by
  have j1 : Ev (fun k => mooringlaw02_MatrixOrders.j0 k (oM A) (oM C) (oM D) true) true := Ev.step (f := fun _ => some true) (fun k => by simp only [mooringlaw02_MatrixOrders.j0, if_true, mooringlaw02_awake.f, Option.bind_some]) (Ev.now _)
  have j2 : ∀ X Y, Ev (fun k => mooringlaw02_MatrixOrders.j1 k (oM A) (oM D) X Y true) true := fun X Y => Ev.step (f := fun _ => some true) (fun k => by simp only [mooringlaw02_MatrixOrders.j1, if_true, mooringlaw02_awake.f, Option.bind_some]) (Ev.now _)
  unfold mooringlaw02_MatrixOrders.f
  simp only [light_eq, Option.bind_some]
  cases h1 : lightB A with
  | false => simp only [Bool.false_eq_true, if_false]; exact j1
  | true =>
    simp only [if_true]
    cases h2 : lightB C with
    | false => simp only [Bool.false_eq_true, if_false]; exact j1
    | true =>
      simp only [if_true]
      cases h3 : lightB D with
      | false => exact j1
      | true =>
        refine Ev.step (f := fun k => (matrix_Mul.f k (oM A) (oM C)).bind fun bt105 => (matrix_Mul.f k (oM C) (oM D)).bind fun bt109 => if bt105.2 = 0 then mooringlaw02_MatrixOrders.j1 k (oM A) (oM D) bt105.1 bt109.1 (bt109.2 != 0) else mooringlaw02_MatrixOrders.j1 k (oM A) (oM D) bt105.1 bt109.1 true) (fun k => by simp only [mooringlaw02_MatrixOrders.j0, Bool.not_true, Bool.false_eq_true, if_false]) ?_
        refine Ev.bind (evMul A C (by omega) (by omega)) ?_
        refine Ev.bind (evMul C D (by omega) (by omega)) ?_
        by_cases e1 : (mulR A C).2 = 0
        · simp only [e1, if_true]
          by_cases e2 : (mulR C D).2 = 0
          · simp only [e2, show ((0 : Int) != 0) = false from rfl]
            obtain ⟨a1, a2, a3, a4⟩ := mulR_ok e1
            obtain ⟨b1, b2, b3, b4⟩ := mulR_ok e2
            rw [a4, b4]
            simp only []
            obtain ⟨rA, pA1, pA2, pA3, pA4⟩ := mayB_reg a1
            obtain ⟨rC, pC1, pC2, pC3, pC4⟩ := mayB_reg a2
            obtain ⟨rD, pD1, pD2, pD3, pD4⟩ := mayB_reg b2
            rw [a3] at rA
            rw [b3] at rC
            have r1 := mulM_reg rA rC pC1
            have r2 := mulM_reg rC rD pD1
            have m1 : mayB (mulM A C) = true := mayB_of r1 pA1 pA2 pD1 pD2
            have m2 : mayB (mulM C D) = true := mayB_of r2 pC1 pC2 pD3 pD4
            have q1 : mulR (mulM A C) D = (oM (mulM (mulM A C) D), 0) := by unfold mulR; rw [if_pos ⟨m1, b2, r1.2 0 pA1⟩]
            have q2 : mulR A (mulM C D) = (oM (mulM A (mulM C D)), 0) := by unfold mulR; rw [if_pos ⟨a1, m2, by rw [a3, r2.1]⟩]
            refine Ev.step (f := fun k => (matrix_Mul.f k (oM (mulM A C)) (oM D)).bind fun bt114 => (matrix_Mul.f k (oM A) (oM (mulM C D))).bind fun bt118 => if bt114.2 = 0 then (if bt118.2 = 0 then (mooringref02_Same.f k bt114.1 bt118.1).bind fun t122 => if t122 = true then (mooringlaw02_awake.f).bind fun t123 => some t123 else some false else some false) else some false) (fun k => by simp only [mooringlaw02_MatrixOrders.j1, Bool.false_eq_true, if_false]) ?_
            refine Ev.bind (evMul _ _ (by rw [r1.1]; omega) (by omega)) ?_
            refine Ev.bind (evMul _ _ (by omega) (by rw [r2.1]; omega)) ?_
            rw [q1, q2]
            simp only [if_true]
            rw [mulM_assoc rA rC rD pC1 pD1]
            refine Ev.bind (evSame _ _ (by rw [(mulM_reg rA r2 pC1).1]; omega)) ?_
            simp only [decide_true, if_true, mooringlaw02_awake.f, Option.bind_some]
            exact Ev.now _
          · simp only [show ((mulR C D).2 != 0) = true by simp [e2]]
            exact j2 _ _
        · simp only [e1, if_false]
          exact j2 _ _
end Go.Proofs.Ytbogmlckbkogiaa.Pure

/- A slice of rows of bytes that came in, told as a matrix. Conditions: none. -/
namespace Go.Proofs.Ytbogmlckbkogiaa.H
open Go.RowKit Go.ChangeShapes Go.WideShapes Go.Deep Go.Proofs.YtbogmlckbkogiaaW.PrintWords Go.Proofs.Ytbogmlckbkogiaa.Leaf Go.Proofs.Ytbogmlckbkogiaa.Gf Go.Proofs.Ytbogmlckbkogiaa.Red
set_option linter.unusedVariables false
theorem rows_weights {H : Type} {P : Program} {e : TypeId} : ∀ {l : List (DataW H)} {d : DataW H}, d ∈ l → ∀ n ∈ d.weights P e, n ∈ DataW.weightsAll P e l
  | d0 :: l, d, hd, n, hn => by
    simp only [DataW.weightsAll, List.mem_append]
    rcases List.mem_cons.1 hd with rfl | hd
    · exact Or.inl hn
    · exact Or.inr (rows_weights hd n hn)
theorem u8_range {x : Int} (h : (Lit.int .u8 x).wf = true) : 0 ≤ x ∧ x < 256 := by
  have h1 : 0 ≤ x ∧ x ≤ 255 := by simpa [Lit.wf, IntKind.min, IntKind.max, IntKind.signed, IntKind.bits] using h
  omega
theorem rows_arg {H : Type} {enc : TypeId × Value → H} {W : World} {a : Option Addr} {len cap : Nat} {d : DataW H} {ps : List MemPlace} (h : DataW.Trod enc Try.prog W 0 (fun _ => true) true 51 (.slice a len cap) d ps) (hw : ∀ x ∈ d.weights Try.prog 51, x ≤ reachBytes) :
    ∃ M : Mat, len = M.length ∧ len ≤ cap ∧ Kd.C KR W a len (oM M) ∧ len * 24 ≤ 140737488351232 ∧ ∀ i, i < M.length → (row M i).length ≤ 140737488351232 := by
  obtain ⟨fuel, hf⟩ := h
  rcases open_int_rows Try.underlying51 Try.underlying22 Try.underlying5 (by kernel_rfl) (by kernel_rfl) hf with ⟨hcs, _⟩ | ⟨a', len', cap', A, L, C, Z, hcs, _, hl, hm, hx, hrow⟩
  · simp [Value.cells] at hcs
    obtain ⟨rfl, rfl, rfl⟩ := hcs
    exact ⟨[], rfl, Nat.le_refl _, Kd.C_nil _ _, by decide, fun i hi => absurd hi (Nat.not_lt_zero _)⟩
  · simp [Value.cells] at hcs
    obtain ⟨rfl, rfl, rfl⟩ := hcs
    obtain ⟨rfl, _⟩ := Prod.mk.inj hx
    have hlen : len ≤ 9223372036854775807 := by unfold maxLen at hm; omega
    let M : Mat := (List.range len).map fun r => ((Z r).take (L r)).map toB
    have hML : M.length = len := by simp [M]
    have hMr : ∀ r, r < len → row M r = ((Z r).take (L r)).map toB := fun r hr => row_map len (fun r => ((Z r).take (L r)).map toB) r hr
    have hlr : ∀ r, r < len → (row M r).length = L r := by
      intro r hr
      obtain ⟨_, h1, _, h2, _⟩ := hrow r (by omega)
      rw [hMr r hr, List.length_map, List.length_take, h2]
      omega
    have hof : ∀ r, r < len → ofL (row M r) = (Z r).take (L r) := by
      intro r hr
      obtain ⟨_, _, _, _, hz, _⟩ := hrow r (by omega)
      rw [hMr r hr]
      unfold ofL
      rw [List.map_map]
      refine (List.map_congr_left fun x hx => ?_).trans (List.map_id' _)
      have := u8_range (hz x (List.mem_of_mem_take hx))
      exact ofB_toB x this.1 this.2
    refine ⟨M, hML.symm, hl, ?_, ?_, fun r hr => ?_⟩
    · have hC := C_rows_of W a' (oM M) A C (by rw [oM_length, hML]; exact hlen) (fun r hr => by
        rw [oM_length, hML] at hr
        obtain ⟨hc, h1, h2, h3, h4, h5, h6⟩ := hrow r (by omega)
        have e : (oM M).getD r [] = ofL (row M r) := map_getD M r
        rw [e, ofL_length, hlr r hr]
        refine ⟨hc, h1, by rw [ofL_length, hlr r hr], by unfold maxLen at h2; omega, fun hp => ?_⟩
        cases hA : A r with
        | none => have := h5 hA; omega
        | some ad =>
          obtain ⟨_, h7⟩ := h6 ad hA
          refine ⟨ad, rfl, fun j p hj => ⟨[.int .u8 p], rfl, rfl, fun i u hu => ?_⟩⟩
          cases i with
          | zero =>
            cases hu
            show W.cell? (ad.add (j * 1 + 0)) = _
            rw [Nat.mul_one, Nat.add_zero]
            have hj' := (List.getElem?_eq_some_iff.1 hj).1
            rw [ofL_length, hlr r hr] at hj'
            rw [h7 j (by omega)]
            rw [hof r hr, List.getElem?_take, if_pos hj'] at hj
            rw [List.getD_eq_getElem?_getD, hj]
            rfl
          | succ i => simp at hu)
      rw [oM_length, hML] at hC
      exact hC
    · have h1 : ((len + (cap - len)) * 24) ∈ (DataW.slice ((List.range len).map fun r => intRow (H := H) .u8 (A r) (L r) (Z r)) ((List.range (cap - len)).map fun j => intRow .u8 (A (len + j)) (L (len + j)) (Z (len + j)))).weights Try.prog 51 := by
        simp only [DataW.weights, Try.underlying51, List.length_map, List.length_range]
        rw [show Try.prog.bytesOf 22 = 24 by kernel_rfl]
        exact List.mem_cons_self
      have h2 := hw _ h1
      have : reachBytes = 140737488351232 := by decide
      omega
    · rw [hML] at hr
      obtain ⟨hc, h1, h2, h3, h4, h5, h6⟩ := hrow r (by omega)
      rw [hlr r hr]
      cases hA : A r with
      | none => have := h5 hA; omega
      | some ad =>
        have hmem : intRow (H := H) .u8 (A r) (L r) (Z r) ∈ (List.range len).map fun r => intRow (H := H) .u8 (A r) (L r) (Z r) := List.mem_map.2 ⟨r, List.mem_range.2 hr, rfl⟩
        have hin := hw (((lits (H := H) .u8 ((Z r).take (L r))).length + (lits (H := H) .u8 ((Z r).drop (L r))).length) * 1) (by
          simp only [DataW.weights, Try.underlying51]
          refine List.mem_cons_of_mem _ (List.mem_append_left _ (rows_weights hmem _ ?_))
          rw [hA]
          simp only [intRow, DataW.weights, Try.underlying22]
          rw [show Try.prog.bytesOf 5 = 1 by kernel_rfl]
          exact List.mem_cons_self)
        have : reachBytes = 140737488351232 := by decide
        simp [lits] at hin
        omega
end Go.Proofs.Ytbogmlckbkogiaa.H
