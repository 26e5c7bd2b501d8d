import Derived.Test.YtbogmlckbkogiaaMMatrixInverts1
import Derived.Test.YtbogmlckbkogiaaMMatrixInverts2
import Derived.Test.YtbogmlckbkogiaaMMatrixInverts5
import Derived.Test.YtbogmlckbkogiaaMMatrixInverts4
import Derived.Test.YtbogmlckbkogiaaMMatrixInverts3
-- Printed by a wrapper (wip/tools/myprint.py) of the kit's print, with hand-written contracts as given leaves.
namespace Go.Proofs.Ytbogmlckbkogiaa.P
open Go.Proofs.Ytbogmlckbkogiaa.H
open Go.Proofs.Ytbogmlckbkogiaa.Leaf
open Go.RowKit Go.Proofs.YtbogmlckbkogiaaW.PrintWords Go.Proofs.YtbogmlckbkogiaaW.PrintLast Go.Proofs.YtbogmlckbkogiaaW.PrintMore
attribute [local go_sem] max2_int min2_int max_two min_two max_three min_three max_four min_four   -- for this text's walks alone
set_option linter.unusedVariables false
set_option linter.unusedSimpArgs false

/-! ### mooringlaw02_MatrixInverts: function 11 -/
def mooringlaw02_MatrixInverts.j0 : Nat → List (List Int) → List (List Int) → Int → Bool → Option (Bool)
  | 0, _, _, _, _ => none
  | k + 1, x0, x3, x4, x30 => if x30 = true then (if x4 = 1 then (if (x3.length : Int) = 0 then ((mooringlaw02_awake.f).bind fun t109 => (some t109)) else (some false)) else (some false)) else ((mooringref02_Rank.f x0).bind fun t110 => (if t110 < (x0.length : Int) then (if x4 = 4 then (if (x3.length : Int) = 0 then ((mooringlaw02_awake.f).bind fun t111 => (some t111)) else (some false)) else (some false)) else ((mooringref02_Mul.f k x0 x3).bind fun bt112 => ((mooringref02_Mul.f k x3 x0).bind fun bt116 => ((mooringref02_Identity.f k (x0.length : Int)).bind fun t120 => (if x4 = 0 then (if bt112.2 = 0 then (if bt116.2 = 0 then ((mooringref02_Same.f k bt112.1 t120).bind fun t123 => (if t123 = true then ((mooringref02_Same.f k bt116.1 t120).bind fun t124 => (if t124 = true then ((mooringlaw02_awake.f).bind fun t125 => (some t125)) else (some false))) else (some false))) else (some false)) else (some false)) else (some false)))))))
def mooringlaw02_MatrixInverts.f (k : Nat) (l0 : List (List Int)) : Option (Bool) := (mooringlaw02_light.f l0).bind fun t101 => (if t101 = true then ((matrix_Inverse.f l0).bind fun bt103 => ((mooringref02_May.f k l0).bind fun t107 => (if t107 = true then (if 0 < (l0.length : Int) then (mooringlaw02_MatrixInverts.j0 k l0 bt103.1 bt103.2 ((l0.length : Int) != ((rd_L1 l0 0).length : Int))) else (none)) else (mooringlaw02_MatrixInverts.j0 k l0 bt103.1 bt103.2 true)))) else ((mooringlaw02_awake.f).bind fun t102 => (some t102)))
theorem mooringlaw02_MatrixInverts.mono_l : ∀ k, (∀ y0 y1 y2 y3, LeO (mooringlaw02_MatrixInverts.j0 k y0 y1 y2 y3) (mooringlaw02_MatrixInverts.j0 (k + 1) y0 y1 y2 y3))
  | 0 => fun _ _ _ _ r h => by simp [mooringlaw02_MatrixInverts.j0] at h
  | k + 1 => by
    have ih0 := mooringlaw02_MatrixInverts.mono_l k
    · intro y0 y1 y2 y3
      unfold mooringlaw02_MatrixInverts.j0
      repeat' first
      | (with_reducible exact ih0 _ _ _ _)
      | (with_reducible exact mooringref02_Identity.mono _ _)
      | (with_reducible exact mooringref02_May.mono _ _)
      | (with_reducible exact mooringref02_Mul.mono _ _ _)
      | (with_reducible exact mooringref02_Same.mono _ _ _)
      | (with_reducible exact LeO.refl _)
      | (with_reducible exact LeO.none _)
      | (with_reducible refine LeO.ite ?_ ?_)
      | (with_reducible refine LeO.bind ?_ (fun _ => ?_))
      | exact ih0 _ _ _ _
      | exact mooringref02_Identity.mono _ _
      | exact mooringref02_May.mono _ _
      | exact mooringref02_Mul.mono _ _ _
      | exact mooringref02_Same.mono _ _ _
      | exact LeO.none _
      | refine LeO.ite ?_ ?_
      | refine LeO.bind ?_ (fun _ => ?_)
theorem mooringlaw02_MatrixInverts.mono : ∀ a0 k, LeO (mooringlaw02_MatrixInverts.f k a0) (mooringlaw02_MatrixInverts.f (k + 1) a0) := by
  intro a0 k
  have ih0 := mooringlaw02_MatrixInverts.mono_l k
  unfold mooringlaw02_MatrixInverts.f
  repeat' first
      | (with_reducible exact ih0 _ _ _ _)
      | (with_reducible exact mooringref02_Identity.mono _ _)
      | (with_reducible exact mooringref02_May.mono _ _)
      | (with_reducible exact mooringref02_Mul.mono _ _ _)
      | (with_reducible exact mooringref02_Same.mono _ _ _)
      | (with_reducible exact LeO.refl _)
      | (with_reducible exact LeO.none _)
      | (with_reducible refine LeO.ite ?_ ?_)
      | (with_reducible refine LeO.bind ?_ (fun _ => ?_))
      | exact ih0 _ _ _ _
      | exact mooringref02_Identity.mono _ _
      | exact mooringref02_May.mono _ _
      | exact mooringref02_Mul.mono _ _ _
      | exact mooringref02_Same.mono _ _ _
      | exact LeO.none _
      | refine LeO.ite ?_ ?_
      | refine LeO.bind ?_ (fun _ => ?_)
set_option maxHeartbeats 8000000 in
set_option maxRecDepth 100000 in
theorem mooringlaw02_MatrixInverts.calls (k : Nat) (A0 : Option Addr) (c0 : Nat) (l0 : List (List Int)) (r : Bool) (w : World) (hr0 : Kd.C (Kd.slice 5 (Kd.int .u8)) w A0 l0.length l0) (hc0 : l0.length ≤ c0) (h : mooringlaw02_MatrixInverts.f k l0 = some r) :
    Calls Try.prog 11 #[.slice A0 l0.length c0] w fun e w' => e = .returned (.bool r) ∧ Below w.heap.size w w' := by
  have HR0 := Aside0.mk hr0
  have HC0 := Aside0.mk hc0
  clear hr0 hc0
  have HB := Aside0.mk (Below.refl w.heap.size w)
  have H : ((mooringlaw02_light.f l0).bind fun t101 => (if t101 = true then ((matrix_Inverse.f l0).bind fun bt103 => ((mooringref02_May.f k l0).bind fun t107 => (if t107 = true then (if 0 < (l0.length : Int) then (mooringlaw02_MatrixInverts.j0 k l0 bt103.1 bt103.2 ((l0.length : Int) != ((rd_L1 l0 0).length : Int))) else (none)) else (mooringlaw02_MatrixInverts.j0 k l0 bt103.1 bt103.2 true)))) else ((mooringlaw02_awake.f).bind fun t102 => (some t102)))) = some r := h
  clear h
  replace H := Option.bind_eq_some_iff.mp H
  obtain ⟨t101, A20, H⟩ := H
  replace H : (if t101 = true then ((matrix_Inverse.f l0).bind fun bt103 => ((mooringref02_May.f k l0).bind fun t107 => (if t107 = true then (if 0 < (l0.length : Int) then (mooringlaw02_MatrixInverts.j0 k l0 bt103.1 bt103.2 ((l0.length : Int) != ((rd_L1 l0 0).length : Int))) else (none)) else (mooringlaw02_MatrixInverts.j0 k l0 bt103.1 bt103.2 true)))) else ((mooringlaw02_awake.f).bind fun t102 => (some t102))) = some r := H
  have A2 := Aside0.mk A20
  clear A20
  by_cases c3 : t101 = true
  · subst c3
    have H1 : ((matrix_Inverse.f l0).bind fun bt103 => ((mooringref02_May.f k l0).bind fun t107 => (if t107 = true then (if 0 < (l0.length : Int) then (mooringlaw02_MatrixInverts.j0 k l0 bt103.1 bt103.2 ((l0.length : Int) != ((rd_L1 l0 0).length : Int))) else (none)) else (mooringlaw02_MatrixInverts.j0 k l0 bt103.1 bt103.2 true)))) = some r := by rw [if_pos rfl] at H; exact H
    clear H
    have H := H1
    clear H1
    replace H := Option.bind_eq_some_iff.mp H
    obtain ⟨⟨t103, t104⟩, A40, H⟩ := H
    replace H : ((mooringref02_May.f k l0).bind fun t107 => (if t107 = true then (if 0 < (l0.length : Int) then (mooringlaw02_MatrixInverts.j0 k l0 t103 t104 ((l0.length : Int) != ((rd_L1 l0 0).length : Int))) else (none)) else (mooringlaw02_MatrixInverts.j0 k l0 t103 t104 true))) = some r := H
    have A4 := Aside0.mk A40
    clear A40
    have HC5 := Aside0.mk H
    clear H
    go_enter Try.func11, Try.ntmps11
    go_upto_region 4 with (first | ((with_reducible refine gate_callee (f := 50) rfl ?_); refine goesL_ (some 11) rfl rfl Try.func50 (by kernel_rfl) rfl #[.slice A0 l0.length c0] rfl (by (try simp only [List.map_toArray, List.map_cons, List.map_nil]); first | done | rfl | (simp only [List.length_drop, List.length_take]; rfl)) ?_; (with_reducible refine (mooringlaw02_light.calls _ _ l0 true _ ?side1 ?side2 A2.out).mono ?_); (case side1 => repeat (first | exact HR0.out | (with_reducible refine Kd.C_alloc ?_ _) | (with_reducible refine Kd.C_drewN ?_ _) | (with_reducible refine Kd.C_drew ?_))); (case side2 => exact HC0.out); rintro e w' ⟨rfl, ⟨nd, rfl⟩⟩; refine ⟨_, rfl, ?_⟩) | ((with_reducible refine gate_callee (f := 52) rfl ?_); refine goesL_ (some 16) rfl rfl Try.func52 (by kernel_rfl) rfl #[.slice A0 l0.length c0] rfl (by (try simp only [List.map_toArray, List.map_cons, List.map_nil]); first | done | rfl | (simp only [List.length_drop, List.length_take]; rfl)) ?_; (with_reducible refine (matrix_Inverse.calls _ _ l0 t103 t104 _ ?side1 ?side2 A4.out).mono ?_); (case side1 => repeat (first | exact HR0.out | (with_reducible refine Kd.C_alloc ?_ _) | (with_reducible refine Kd.C_drewN ?_ _) | (with_reducible refine Kd.C_drew ?_))); (case side2 => exact HC0.out); rintro e w6 ⟨v105, rfl, ho0, hb⟩; refine ⟨_, rfl, ?_⟩; have n0_ := Aside0.mk (Kd.S_lower ho0 (below_size (by repeat (first | (with_reducible first | exact HB.out | apply below_alloc | apply pw_below_drewN | apply below_drew1) | exact HB.out)))); have n1_ := Aside0.mk (below_step (by repeat (first | (with_reducible first | exact HB.out | apply below_alloc | apply pw_below_drewN | apply below_drew1) | exact HB.out)) hb); clear HB; have HO106 := n0_; have HB := n1_; clear n0_ n1_; (try clear hb); (try clear hb2); (try clear hk); (try clear hi); (try clear ho0)))
    (try simp only [Act.put, List.setIfInBounds_toArray, List.set_cons_zero, List.set_cons_succ])
    go_cut [30] (fun v30 wc => ∃ (kq : Nat) (x30_4 : Bool), v30 = .bool x30_4 ∧ Aside0 (mooringlaw02_MatrixInverts.j0 kq l0 t103 t104 x30_4 = some r) ∧ Aside0 (kq ≤ k) ∧ Aside0 (Kd.S (Kd.slice 5 (Kd.int .u8)) 22 wc w.heap.size (fun _ => True) v105 t103) ∧ Aside0 (Below w.heap.size w wc))
    case first =>
      have H := HC5.out
      clear HC5
      replace H := Option.bind_eq_some_iff.mp H
      obtain ⟨t107, A70, H⟩ := H
      replace H : (if t107 = true then (if 0 < (l0.length : Int) then (mooringlaw02_MatrixInverts.j0 k l0 t103 t104 ((l0.length : Int) != ((rd_L1 l0 0).length : Int))) else (none)) else (mooringlaw02_MatrixInverts.j0 k l0 t103 t104 true)) = some r := H
      have A7 := Aside0.mk A70
      clear A70
      by_cases c8 : t107 = true
      · subst c8
        have H1 : (if 0 < (l0.length : Int) then (mooringlaw02_MatrixInverts.j0 k l0 t103 t104 ((l0.length : Int) != ((rd_L1 l0 0).length : Int))) else (none)) = some r := by rw [if_pos rfl] at H; exact H
        clear H
        have H := H1
        clear H1
        by_cases c9 : 0 < (l0.length : Int)
        · rw [if_pos c9] at H
          have c9b0 : decide (0 < (l0.length : Int)) = true := decide_eq_true c9
          have c9b1 : decide (0 < l0.length) = true := decide_eq_true (by omega)
          clear c9
          (first | rw [c9b0] | (simp only [i64_w, i32_w]; rw [c9b0]) | skip)
          have H' := Aside0.mk H
          clear H
          go_wp2_with (first | ((with_reducible refine gate_callee (f := 53) rfl ?_); refine goesL_ (some 20) rfl rfl Try.func53 (by kernel_rfl) rfl #[.slice A0 l0.length c0] rfl (by (try simp only [List.map_toArray, List.map_cons, List.map_nil]); first | done | rfl | (simp only [List.length_drop, List.length_take]; rfl)) ?_; (with_reducible refine (mooringref02_May.calls k _ _ l0 true _ ?side1 ?side2 A7.out).mono ?_); (case side1 => repeat (first | exact (Kd.C_below HR0.out HB.out) | (with_reducible refine Kd.C_alloc ?_ _) | (with_reducible refine Kd.C_drewN ?_ _) | (with_reducible refine Kd.C_drew ?_))); (case side2 => exact HC0.out); rintro e w' ⟨rfl, ⟨nd, rfl⟩⟩; refine ⟨_, rfl, ?_⟩; have p108 : 0 ≤ (0 : Int) := (by omega); have q108 : 0 < (l0.length : Int) := of_decide_eq_true (by first | (with_reducible assumption) | assumption); obtain ⟨ad108, A108_0, c108_0, e108, hx108_0, hl108_0, hi108_0⟩ := at_L1 HR0.out 0 p108 q108; cases e108; have qi108 : (0 < l0.length) = True := eq_true (by omega); (try rw [show ((0 : Int)).toNat = 0 from rfl] at hx108_0); (try rw [Addr.add_zero'] at hx108_0); replace hx108_0 := (HB.out.cell (World.block_lt_of_cell? w _ hx108_0)).trans hx108_0; have HR108_0 := Aside0.mk hi108_0; have HC108_0 := Aside0.mk hl108_0; clear hi108_0 hl108_0; replace p108 := eq_true p108; replace q108 := eq_true q108))
          go_meet
          case rel => exact ⟨_, (((l0.length : Int) != ((rd_L1 l0 0).length : Int))), (by first | rfl | (simp; done) | (simp [*]; done)), H', ⟨by first | omega | exact Nat.le_refl _⟩, ⟨by (with_reducible repeat (first | apply Kd.S_alloc | apply Kd.S_drewN | apply Kd.S_drew)); exact HO106.out⟩, ⟨by repeat (first | (with_reducible first | exact HB.out | apply below_alloc | apply pw_below_drewN | apply below_drew1) | exact HB.out)⟩⟩
        · rw [if_neg c9] at H
          exact absurd H (by simp)
      · replace c8 := Bool.eq_false_iff.mpr c8
        subst c8
        have H1 : (mooringlaw02_MatrixInverts.j0 k l0 t103 t104 true) = some r := by rw [if_neg (show ¬ (false = true) by decide)] at H; exact H
        clear H
        have H := H1
        clear H1
        have H' := Aside0.mk H
        clear H
        go_wp2_with (first | ((with_reducible refine gate_callee (f := 53) rfl ?_); refine goesL_ (some 20) rfl rfl Try.func53 (by kernel_rfl) rfl #[.slice A0 l0.length c0] rfl (by (try simp only [List.map_toArray, List.map_cons, List.map_nil]); first | done | rfl | (simp only [List.length_drop, List.length_take]; rfl)) ?_; (with_reducible refine (mooringref02_May.calls k _ _ l0 false _ ?side1 ?side2 A7.out).mono ?_); (case side1 => repeat (first | exact (Kd.C_below HR0.out HB.out) | (with_reducible refine Kd.C_alloc ?_ _) | (with_reducible refine Kd.C_drewN ?_ _) | (with_reducible refine Kd.C_drew ?_))); (case side2 => exact HC0.out); rintro e w' ⟨rfl, ⟨nd, rfl⟩⟩; refine ⟨_, rfl, ?_⟩))
        go_meet
        case rel => exact ⟨_, (true), (by first | rfl | (simp; done) | (simp [*]; done)), H', ⟨by first | omega | exact Nat.le_refl _⟩, ⟨by (with_reducible repeat (first | apply Kd.S_alloc | apply Kd.S_drewN | apply Kd.S_drew)); exact HO106.out⟩, ⟨by repeat (first | (with_reducible first | exact HB.out | apply below_alloc | apply pw_below_drewN | apply below_drew1) | exact HB.out)⟩⟩
    case rest =>
      clear HC5
      try clear c1
      try clear p1
      try clear q1
      try clear hx1
      try clear qi1
      try clear p2
      try clear c3
      try clear c5
      try clear c8
      try clear c9
      try clear c9b0
      try clear c9b1
      try clear hx108_0
      try clear p108
      try clear q108
      obtain ⟨kq, x30_4, rfl, HA, HJ4, HO_3, HB⟩ := hcut
      cases kq with
      | zero => exact absurd HA.out (by simp [mooringlaw02_MatrixInverts.j0])
      | succ kj4 =>
        have H := HA.out
        clear HA
        simp only [mooringlaw02_MatrixInverts.j0] at H
        by_cases c10 : x30_4 = true
        · subst c10
          have H1 : (if t104 = 1 then (if (t103.length : Int) = 0 then ((mooringlaw02_awake.f).bind fun t109 => (some t109)) else (some false)) else (some false)) = some r := by rw [if_pos rfl] at H; exact H
          clear H
          have H := H1
          clear H1
          by_cases c11 : t104 = 1
          · rw [if_pos c11] at H
            have c11b0 : (t104 == 1) = true := beq_iff_eq.mpr c11
            have c11b1 : (t104 != 1) = false := bne_eq_false_iff_eq.mpr c11
            clear c11
            by_cases c12 : (t103.length : Int) = 0
            · rw [if_pos c12] at H
              have c12b0 : ((t103.length : Int) == 0) = true := beq_iff_eq.mpr c12
              have c12b1 : ((t103.length : Int) != 0) = false := bne_eq_false_iff_eq.mpr c12
              clear c12
              replace H := Option.bind_eq_some_iff.mp H
              obtain ⟨t109, A130, H⟩ := H
              replace H : (some t109) = some r := H
              have A13 := Aside0.mk A130
              clear A130
              obtain rfl := Option.some.inj H
              obtain ⟨Ao14, co14, eo14⟩ := Kd.S_slice HO_3.out
              subst eo14
              go_wp2_with (first | (go_at_call 51; (with_reducible refine (mooringlaw02_awake.calls  t109 _ A13.out).mono ?_); rintro e w15 ⟨rfl, hb⟩; have n0_ := Aside0.mk (Kd.S_below (by (with_reducible repeat (first | apply Kd.S_alloc | apply Kd.S_drewN | apply Kd.S_drew)); exact HO_3.out) hb); have n1_ := Aside0.mk (below_step (by repeat (first | (with_reducible first | exact HB.out | apply below_alloc | apply pw_below_drewN | apply below_drew1) | exact HB.out)) hb); clear HO_3; clear HB; have HO_3 := n0_; have HB := n1_; clear n0_ n1_; (try clear hb); (try clear hb2); (try clear hk); (try clear hi)))
              go_ret
              exact ⟨by first | rfl | (simp [errW_none, errW_some] <;> rfl) | (simp [*, errW_none, errW_some] <;> rfl), by repeat (first | (with_reducible first | exact HB.out | apply below_alloc | apply pw_below_drewN | apply below_drew1) | exact HB.out)⟩
            · rw [if_neg c12] at H
              have c12b0 : ((t103.length : Int) == 0) = false := beq_eq_false_iff_ne.mpr c12
              have c12b1 : ((t103.length : Int) != 0) = true := bne_iff_ne.mpr c12
              have c12b2 : ¬ (t103 = []) := fun h_ => c12 (by rw [h_]; rfl)
              obtain rfl := Option.some.inj H
              obtain ⟨Ao16, co16, eo16⟩ := Kd.S_slice HO_3.out
              subst eo16
              go_wp2
              go_ret
              exact ⟨by first | rfl | (simp [errW_none, errW_some] <;> rfl) | (simp [*, errW_none, errW_some] <;> rfl), by repeat (first | (with_reducible first | exact HB.out | apply below_alloc | apply pw_below_drewN | apply below_drew1) | exact HB.out)⟩
          · rw [if_neg c11] at H
            have c11b0 : (t104 == 1) = false := beq_eq_false_iff_ne.mpr c11
            have c11b1 : (t104 != 1) = true := bne_iff_ne.mpr c11
            obtain rfl := Option.some.inj H
            go_wp2
            go_ret
            exact ⟨by first | rfl | (simp [errW_none, errW_some] <;> rfl) | (simp [*, errW_none, errW_some] <;> rfl), by repeat (first | (with_reducible first | exact HB.out | apply below_alloc | apply pw_below_drewN | apply below_drew1) | exact HB.out)⟩
        · replace c10 := Bool.eq_false_iff.mpr c10
          subst c10
          have H1 : ((mooringref02_Rank.f l0).bind fun t110 => (if t110 < (l0.length : Int) then (if t104 = 4 then (if (t103.length : Int) = 0 then ((mooringlaw02_awake.f).bind fun t111 => (some t111)) else (some false)) else (some false)) else ((mooringref02_Mul.f kj4 l0 t103).bind fun bt112 => ((mooringref02_Mul.f kj4 t103 l0).bind fun bt116 => ((mooringref02_Identity.f kj4 (l0.length : Int)).bind fun t120 => (if t104 = 0 then (if bt112.2 = 0 then (if bt116.2 = 0 then ((mooringref02_Same.f kj4 bt112.1 t120).bind fun t123 => (if t123 = true then ((mooringref02_Same.f kj4 bt116.1 t120).bind fun t124 => (if t124 = true then ((mooringlaw02_awake.f).bind fun t125 => (some t125)) else (some false))) else (some false))) else (some false)) else (some false)) else (some false))))))) = some r := by rw [if_neg (show ¬ (false = true) by decide)] at H; exact H
          clear H
          have H := H1
          clear H1
          replace H := Option.bind_eq_some_iff.mp H
          obtain ⟨t110, A170, H⟩ := H
          replace H : (if t110 < (l0.length : Int) then (if t104 = 4 then (if (t103.length : Int) = 0 then ((mooringlaw02_awake.f).bind fun t111 => (some t111)) else (some false)) else (some false)) else ((mooringref02_Mul.f kj4 l0 t103).bind fun bt112 => ((mooringref02_Mul.f kj4 t103 l0).bind fun bt116 => ((mooringref02_Identity.f kj4 (l0.length : Int)).bind fun t120 => (if t104 = 0 then (if bt112.2 = 0 then (if bt116.2 = 0 then ((mooringref02_Same.f kj4 bt112.1 t120).bind fun t123 => (if t123 = true then ((mooringref02_Same.f kj4 bt116.1 t120).bind fun t124 => (if t124 = true then ((mooringlaw02_awake.f).bind fun t125 => (some t125)) else (some false))) else (some false))) else (some false)) else (some false)) else (some false)))))) = some r := H
          have A17 := Aside0.mk A170
          clear A170
          by_cases c18 : t110 < (l0.length : Int)
          · rw [if_pos c18] at H
            have c18b0 : decide (t110 < (l0.length : Int)) = true := decide_eq_true c18
            clear c18
            by_cases c19 : t104 = 4
            · rw [if_pos c19] at H
              have c19b0 : (t104 == 4) = true := beq_iff_eq.mpr c19
              have c19b1 : (t104 != 4) = false := bne_eq_false_iff_eq.mpr c19
              clear c19
              by_cases c20 : (t103.length : Int) = 0
              · rw [if_pos c20] at H
                have c20b0 : ((t103.length : Int) == 0) = true := beq_iff_eq.mpr c20
                have c20b1 : ((t103.length : Int) != 0) = false := bne_eq_false_iff_eq.mpr c20
                clear c20
                replace H := Option.bind_eq_some_iff.mp H
                obtain ⟨t111, A210, H⟩ := H
                replace H : (some t111) = some r := H
                have A21 := Aside0.mk A210
                clear A210
                obtain rfl := Option.some.inj H
                go_wp2_with (first | ((with_reducible refine gate_callee (f := 54) rfl ?_); refine goesL_ (some 42) rfl rfl Try.func54 (by kernel_rfl) rfl #[.slice A0 l0.length c0] rfl (by (try simp only [List.map_toArray, List.map_cons, List.map_nil]); first | done | rfl | (simp only [List.length_drop, List.length_take]; rfl)) ?_; (with_reducible refine (mooringref02_Rank.calls _ _ l0 t110 _ ?side1 ?side2 A17.out).mono ?_); (case side1 => repeat (first | exact (Kd.C_below HR0.out HB.out) | (with_reducible refine Kd.C_alloc ?_ _) | (with_reducible refine Kd.C_drewN ?_ _) | (with_reducible refine Kd.C_drew ?_))); (case side2 => exact HC0.out); rintro e w22 ⟨rfl, hb⟩; refine ⟨_, rfl, ?_⟩; have n0_ := Aside0.mk (Kd.S_below (by (with_reducible repeat (first | apply Kd.S_alloc | apply Kd.S_drewN | apply Kd.S_drew)); exact HO_3.out) hb); have n1_ := Aside0.mk (below_step (by repeat (first | (with_reducible first | exact HB.out | apply below_alloc | apply pw_below_drewN | apply below_drew1) | exact HB.out)) hb); clear HO_3; clear HB; have HO_3 := n0_; have HB := n1_; clear n0_ n1_; (try clear hb); (try clear hb2); (try clear hk); (try clear hi); obtain ⟨Ao23, co23, eo23⟩ := Kd.S_slice HO_3.out; subst eo23) | (go_at_call 51; (with_reducible refine (mooringlaw02_awake.calls  t111 _ A21.out).mono ?_); rintro e w24 ⟨rfl, hb⟩; have n0_ := Aside0.mk (Kd.S_below (by (with_reducible repeat (first | apply Kd.S_alloc | apply Kd.S_drewN | apply Kd.S_drew)); exact HO_3.out) hb); have n1_ := Aside0.mk (below_step (by repeat (first | (with_reducible first | exact HB.out | apply below_alloc | apply pw_below_drewN | apply below_drew1) | exact HB.out)) hb); clear HO_3; clear HB; have HO_3 := n0_; have HB := n1_; clear n0_ n1_; (try clear hb); (try clear hb2); (try clear hk); (try clear hi)))
                go_ret
                exact ⟨by first | rfl | (simp [errW_none, errW_some] <;> rfl) | (simp [*, errW_none, errW_some] <;> rfl), by repeat (first | (with_reducible first | exact HB.out | apply below_alloc | apply pw_below_drewN | apply below_drew1) | exact HB.out)⟩
              · rw [if_neg c20] at H
                have c20b0 : ((t103.length : Int) == 0) = false := beq_eq_false_iff_ne.mpr c20
                have c20b1 : ((t103.length : Int) != 0) = true := bne_iff_ne.mpr c20
                have c20b2 : ¬ (t103 = []) := fun h_ => c20 (by rw [h_]; rfl)
                obtain rfl := Option.some.inj H
                go_wp2_with (first | ((with_reducible refine gate_callee (f := 54) rfl ?_); refine goesL_ (some 42) rfl rfl Try.func54 (by kernel_rfl) rfl #[.slice A0 l0.length c0] rfl (by (try simp only [List.map_toArray, List.map_cons, List.map_nil]); first | done | rfl | (simp only [List.length_drop, List.length_take]; rfl)) ?_; (with_reducible refine (mooringref02_Rank.calls _ _ l0 t110 _ ?side1 ?side2 A17.out).mono ?_); (case side1 => repeat (first | exact (Kd.C_below HR0.out HB.out) | (with_reducible refine Kd.C_alloc ?_ _) | (with_reducible refine Kd.C_drewN ?_ _) | (with_reducible refine Kd.C_drew ?_))); (case side2 => exact HC0.out); rintro e w25 ⟨rfl, hb⟩; refine ⟨_, rfl, ?_⟩; have n0_ := Aside0.mk (Kd.S_below (by (with_reducible repeat (first | apply Kd.S_alloc | apply Kd.S_drewN | apply Kd.S_drew)); exact HO_3.out) hb); have n1_ := Aside0.mk (below_step (by repeat (first | (with_reducible first | exact HB.out | apply below_alloc | apply pw_below_drewN | apply below_drew1) | exact HB.out)) hb); clear HO_3; clear HB; have HO_3 := n0_; have HB := n1_; clear n0_ n1_; (try clear hb); (try clear hb2); (try clear hk); (try clear hi); obtain ⟨Ao26, co26, eo26⟩ := Kd.S_slice HO_3.out; subst eo26))
                go_ret
                exact ⟨by first | rfl | (simp [errW_none, errW_some] <;> rfl) | (simp [*, errW_none, errW_some] <;> rfl), by repeat (first | (with_reducible first | exact HB.out | apply below_alloc | apply pw_below_drewN | apply below_drew1) | exact HB.out)⟩
            · rw [if_neg c19] at H
              have c19b0 : (t104 == 4) = false := beq_eq_false_iff_ne.mpr c19
              have c19b1 : (t104 != 4) = true := bne_iff_ne.mpr c19
              obtain rfl := Option.some.inj H
              go_wp2_with (first | ((with_reducible refine gate_callee (f := 54) rfl ?_); refine goesL_ (some 42) rfl rfl Try.func54 (by kernel_rfl) rfl #[.slice A0 l0.length c0] rfl (by (try simp only [List.map_toArray, List.map_cons, List.map_nil]); first | done | rfl | (simp only [List.length_drop, List.length_take]; rfl)) ?_; (with_reducible refine (mooringref02_Rank.calls _ _ l0 t110 _ ?side1 ?side2 A17.out).mono ?_); (case side1 => repeat (first | exact (Kd.C_below HR0.out HB.out) | (with_reducible refine Kd.C_alloc ?_ _) | (with_reducible refine Kd.C_drewN ?_ _) | (with_reducible refine Kd.C_drew ?_))); (case side2 => exact HC0.out); rintro e w27 ⟨rfl, hb⟩; refine ⟨_, rfl, ?_⟩; have n0_ := Aside0.mk (Kd.S_below (by (with_reducible repeat (first | apply Kd.S_alloc | apply Kd.S_drewN | apply Kd.S_drew)); exact HO_3.out) hb); have n1_ := Aside0.mk (below_step (by repeat (first | (with_reducible first | exact HB.out | apply below_alloc | apply pw_below_drewN | apply below_drew1) | exact HB.out)) hb); clear HO_3; clear HB; have HO_3 := n0_; have HB := n1_; clear n0_ n1_; (try clear hb); (try clear hb2); (try clear hk); (try clear hi)))
              go_ret
              exact ⟨by first | rfl | (simp [errW_none, errW_some] <;> rfl) | (simp [*, errW_none, errW_some] <;> rfl), by repeat (first | (with_reducible first | exact HB.out | apply below_alloc | apply pw_below_drewN | apply below_drew1) | exact HB.out)⟩
          · rw [if_neg c18] at H
            have c18b0 : decide (t110 < (l0.length : Int)) = false := decide_eq_false c18
            clear c18
            replace H := Option.bind_eq_some_iff.mp H
            obtain ⟨⟨t112, t113⟩, A280, H⟩ := H
            replace H : ((mooringref02_Mul.f kj4 t103 l0).bind fun bt116 => ((mooringref02_Identity.f kj4 (l0.length : Int)).bind fun t120 => (if t104 = 0 then (if t113 = 0 then (if bt116.2 = 0 then ((mooringref02_Same.f kj4 t112 t120).bind fun t123 => (if t123 = true then ((mooringref02_Same.f kj4 bt116.1 t120).bind fun t124 => (if t124 = true then ((mooringlaw02_awake.f).bind fun t125 => (some t125)) else (some false))) else (some false))) else (some false)) else (some false)) else (some false)))) = some r := H
            have A28 := Aside0.mk A280
            clear A280
            replace H := Option.bind_eq_some_iff.mp H
            obtain ⟨⟨t116, t117⟩, A290, H⟩ := H
            replace H : ((mooringref02_Identity.f kj4 (l0.length : Int)).bind fun t120 => (if t104 = 0 then (if t113 = 0 then (if t117 = 0 then ((mooringref02_Same.f kj4 t112 t120).bind fun t123 => (if t123 = true then ((mooringref02_Same.f kj4 t116 t120).bind fun t124 => (if t124 = true then ((mooringlaw02_awake.f).bind fun t125 => (some t125)) else (some false))) else (some false))) else (some false)) else (some false)) else (some false))) = some r := H
            have A29 := Aside0.mk A290
            clear A290
            replace H := Option.bind_eq_some_iff.mp H
            obtain ⟨t120, A300, H⟩ := H
            replace H : (if t104 = 0 then (if t113 = 0 then (if t117 = 0 then ((mooringref02_Same.f kj4 t112 t120).bind fun t123 => (if t123 = true then ((mooringref02_Same.f kj4 t116 t120).bind fun t124 => (if t124 = true then ((mooringlaw02_awake.f).bind fun t125 => (some t125)) else (some false))) else (some false))) else (some false)) else (some false)) else (some false)) = some r := H
            have A30 := Aside0.mk A300
            clear A300
            by_cases c31 : t104 = 0
            · rw [if_pos c31] at H
              have c31b0 : (t104 == 0) = true := beq_iff_eq.mpr c31
              have c31b1 : (t104 != 0) = false := bne_eq_false_iff_eq.mpr c31
              clear c31
              by_cases c32 : t113 = 0
              · rw [if_pos c32] at H
                have c32b0 : (t113 == 0) = true := beq_iff_eq.mpr c32
                have c32b1 : (t113 != 0) = false := bne_eq_false_iff_eq.mpr c32
                clear c32
                by_cases c33 : t117 = 0
                · rw [if_pos c33] at H
                  have c33b0 : (t117 == 0) = true := beq_iff_eq.mpr c33
                  have c33b1 : (t117 != 0) = false := bne_eq_false_iff_eq.mpr c33
                  clear c33
                  replace H := Option.bind_eq_some_iff.mp H
                  obtain ⟨t123, A340, H⟩ := H
                  replace H : (if t123 = true then ((mooringref02_Same.f kj4 t116 t120).bind fun t124 => (if t124 = true then ((mooringlaw02_awake.f).bind fun t125 => (some t125)) else (some false))) else (some false)) = some r := H
                  have A34 := Aside0.mk A340
                  clear A340
                  by_cases c35 : t123 = true
                  · subst c35
                    have H1 : ((mooringref02_Same.f kj4 t116 t120).bind fun t124 => (if t124 = true then ((mooringlaw02_awake.f).bind fun t125 => (some t125)) else (some false))) = some r := by rw [if_pos rfl] at H; exact H
                    clear H
                    have H := H1
                    clear H1
                    replace H := Option.bind_eq_some_iff.mp H
                    obtain ⟨t124, A360, H⟩ := H
                    replace H : (if t124 = true then ((mooringlaw02_awake.f).bind fun t125 => (some t125)) else (some false)) = some r := H
                    have A36 := Aside0.mk A360
                    clear A360
                    by_cases c37 : t124 = true
                    · subst c37
                      have H1 : ((mooringlaw02_awake.f).bind fun t125 => (some t125)) = some r := by rw [if_pos rfl] at H; exact H
                      clear H
                      have H := H1
                      clear H1
                      replace H := Option.bind_eq_some_iff.mp H
                      obtain ⟨t125, A380, H⟩ := H
                      replace H : (some t125) = some r := H
                      have A38 := Aside0.mk A380
                      clear A380
                      obtain rfl := Option.some.inj H
                      go_wp2_with (first | ((with_reducible refine gate_callee (f := 54) rfl ?_); refine goesL_ (some 42) rfl rfl Try.func54 (by kernel_rfl) rfl #[.slice A0 l0.length c0] rfl (by (try simp only [List.map_toArray, List.map_cons, List.map_nil]); first | done | rfl | (simp only [List.length_drop, List.length_take]; rfl)) ?_; (with_reducible refine (mooringref02_Rank.calls _ _ l0 t110 _ ?side1 ?side2 A17.out).mono ?_); (case side1 => repeat (first | exact (Kd.C_below HR0.out HB.out) | (with_reducible refine Kd.C_alloc ?_ _) | (with_reducible refine Kd.C_drewN ?_ _) | (with_reducible refine Kd.C_drew ?_))); (case side2 => exact HC0.out); rintro e w39 ⟨rfl, hb⟩; refine ⟨_, rfl, ?_⟩; have n0_ := Aside0.mk (Kd.S_below (by (with_reducible repeat (first | apply Kd.S_alloc | apply Kd.S_drewN | apply Kd.S_drew)); exact HO_3.out) hb); have n1_ := Aside0.mk (below_step (by repeat (first | (with_reducible first | exact HB.out | apply below_alloc | apply pw_below_drewN | apply below_drew1) | exact HB.out)) hb); clear HO_3; clear HB; have HO_3 := n0_; have HB := n1_; clear n0_ n1_; (try clear hb); (try clear hb2); (try clear hk); (try clear hi); obtain ⟨Ao40, co40, eo40⟩ := Kd.S_slice HO_3.out; subst eo40) | ((with_reducible refine gate_callee (f := 55) rfl ?_); refine goesL_ (some 59) rfl rfl Try.func55 (by kernel_rfl) rfl #[.slice A0 l0.length c0, .slice Ao40 t103.length co40] rfl (by (try simp only [List.map_toArray, List.map_cons, List.map_nil]); first | done | rfl | (simp only [List.length_drop, List.length_take]; rfl)) ?_; (with_reducible refine (mooringref02_Mul.calls kj4 _ _ l0 _ _ t103 t112 t113 _ ?side1 ?side2 ?side3 ?side4 A28.out).mono ?_); (case side1 => repeat (first | exact (Kd.C_below HR0.out HB.out) | (with_reducible refine Kd.C_alloc ?_ _) | (with_reducible refine Kd.C_drewN ?_ _) | (with_reducible refine Kd.C_drew ?_))); (case side2 => exact HC0.out); (case side3 => repeat (first | exact (Kd.S_reads' HO_3.out).2.2 | (with_reducible refine Kd.C_alloc ?_ _) | (with_reducible refine Kd.C_drewN ?_ _) | (with_reducible refine Kd.C_drew ?_))); (case side4 => exact (Kd.S_reads' HO_3.out).2.1); rintro e w41 ⟨v114, rfl, ho0, hb⟩; refine ⟨_, rfl, ?_⟩; have n0_ := Aside0.mk (Kd.S_elder' (by (with_reducible repeat (first | apply Kd.S_alloc | apply Kd.S_drewN | apply Kd.S_drew)); exact HO_3.out) (Kd.S_base ho0) hb); have n1_ := Aside0.mk (Kd.S_lower (Kd.S_new' ho0 (Kd.S_lt (by (with_reducible repeat (first | apply Kd.S_alloc | apply Kd.S_drewN | apply Kd.S_drew)); exact HO_3.out))) (below_size (by repeat (first | (with_reducible first | exact HB.out | apply below_alloc | apply pw_below_drewN | apply below_drew1) | exact HB.out)))); have n2_ := Aside0.mk (below_step (by repeat (first | (with_reducible first | exact HB.out | apply below_alloc | apply pw_below_drewN | apply below_drew1) | exact HB.out)) hb); clear HO_3; clear HB; have HO_3 := n0_; have HO115 := n1_; have HB := n2_; clear n0_ n1_ n2_; (try clear hb); (try clear hb2); (try clear hk); (try clear hi); (try clear ho0)) | ((with_reducible refine gate_callee (f := 55) rfl ?_); refine goesL_ (some 65) rfl rfl Try.func55 (by kernel_rfl) rfl #[.slice Ao40 t103.length co40, .slice A0 l0.length c0] rfl (by (try simp only [List.map_toArray, List.map_cons, List.map_nil]); first | done | rfl | (simp only [List.length_drop, List.length_take]; rfl)) ?_; (with_reducible refine (mooringref02_Mul.calls kj4 _ _ t103 _ _ l0 t116 t117 _ ?side1 ?side2 ?side3 ?side4 A29.out).mono ?_); (case side1 => repeat (first | exact (Kd.S_reads' HO_3.out).2.2 | (with_reducible refine Kd.C_alloc ?_ _) | (with_reducible refine Kd.C_drewN ?_ _) | (with_reducible refine Kd.C_drew ?_))); (case side2 => exact (Kd.S_reads' HO_3.out).2.1); (case side3 => repeat (first | exact (Kd.C_below HR0.out HB.out) | (with_reducible refine Kd.C_alloc ?_ _) | (with_reducible refine Kd.C_drewN ?_ _) | (with_reducible refine Kd.C_drew ?_))); (case side4 => exact HC0.out); rintro e w42 ⟨v118, rfl, ho0, hb⟩; refine ⟨_, rfl, ?_⟩; have n0_ := Aside0.mk (Kd.S_elder' (by (with_reducible repeat (first | apply Kd.S_alloc | apply Kd.S_drewN | apply Kd.S_drew)); exact HO_3.out) (Kd.S_base ho0) hb); have n1_ := Aside0.mk (Kd.S_elder' (by (with_reducible repeat (first | apply Kd.S_alloc | apply Kd.S_drewN | apply Kd.S_drew)); exact HO115.out) (Kd.S_base ho0) hb); have n2_ := Aside0.mk (Kd.S_lower (Kd.S_new' (Kd.S_new' ho0 (Kd.S_lt (by (with_reducible repeat (first | apply Kd.S_alloc | apply Kd.S_drewN | apply Kd.S_drew)); exact HO_3.out))) (Kd.S_lt (by (with_reducible repeat (first | apply Kd.S_alloc | apply Kd.S_drewN | apply Kd.S_drew)); exact HO115.out))) (below_size (by repeat (first | (with_reducible first | exact HB.out | apply below_alloc | apply pw_below_drewN | apply below_drew1) | exact HB.out)))); have n3_ := Aside0.mk (below_step (by repeat (first | (with_reducible first | exact HB.out | apply below_alloc | apply pw_below_drewN | apply below_drew1) | exact HB.out)) hb); clear HO_3; clear HO115; clear HB; have HO_3 := n0_; have HO115 := n1_; have HO119 := n2_; have HB := n3_; clear n0_ n1_ n2_ n3_; (try clear hb); (try clear hb2); (try clear hk); (try clear hi); (try clear ho0)) | ((with_reducible refine gate_callee (f := 56) rfl ?_); refine goesL_ (some 70) rfl rfl Try.func56 (by kernel_rfl) rfl #[.int .i64 (l0.length : Int)] rfl (by (try simp only [List.map_toArray, List.map_cons, List.map_nil]); first | done | rfl | (simp only [List.length_drop, List.length_take]; rfl)) ?_; (with_reducible refine (mooringref02_Identity.calls kj4 (l0.length : Int) t120 _ A30.out).mono ?_); rintro e w43 ⟨v121, rfl, ho0, hb⟩; refine ⟨_, rfl, ?_⟩; have n0_ := Aside0.mk (Kd.S_elder' (by (with_reducible repeat (first | apply Kd.S_alloc | apply Kd.S_drewN | apply Kd.S_drew)); exact HO_3.out) (Kd.S_base ho0) hb); have n1_ := Aside0.mk (Kd.S_elder' (by (with_reducible repeat (first | apply Kd.S_alloc | apply Kd.S_drewN | apply Kd.S_drew)); exact HO115.out) (Kd.S_base ho0) hb); have n2_ := Aside0.mk (Kd.S_elder' (by (with_reducible repeat (first | apply Kd.S_alloc | apply Kd.S_drewN | apply Kd.S_drew)); exact HO119.out) (Kd.S_base ho0) hb); have n3_ := Aside0.mk (Kd.S_lower (Kd.S_new' (Kd.S_new' (Kd.S_new' ho0 (Kd.S_lt (by (with_reducible repeat (first | apply Kd.S_alloc | apply Kd.S_drewN | apply Kd.S_drew)); exact HO_3.out))) (Kd.S_lt (by (with_reducible repeat (first | apply Kd.S_alloc | apply Kd.S_drewN | apply Kd.S_drew)); exact HO115.out))) (Kd.S_lt (by (with_reducible repeat (first | apply Kd.S_alloc | apply Kd.S_drewN | apply Kd.S_drew)); exact HO119.out))) (below_size (by repeat (first | (with_reducible first | exact HB.out | apply below_alloc | apply pw_below_drewN | apply below_drew1) | exact HB.out)))); have n4_ := Aside0.mk (below_step (by repeat (first | (with_reducible first | exact HB.out | apply below_alloc | apply pw_below_drewN | apply below_drew1) | exact HB.out)) hb); clear HO_3; clear HO115; clear HO119; clear HB; have HO_3 := n0_; have HO115 := n1_; have HO119 := n2_; have HO122 := n3_; have HB := n4_; clear n0_ n1_ n2_ n3_ n4_; (try clear hb); (try clear hb2); (try clear hk); (try clear hi); (try clear ho0); obtain ⟨Ao44, co44, eo44⟩ := Kd.S_slice HO115.out; subst eo44; obtain ⟨Ao45, co45, eo45⟩ := Kd.S_slice HO122.out; subst eo45) | (go_at_call 57; (with_reducible refine (mooringref02_Same.calls kj4 _ _ t112 _ _ t120 true _ ?side1 ?side2 ?side3 ?side4 A34.out).mono ?_); (case side1 => repeat (first | exact (Kd.S_reads' HO115.out).2.2 | (with_reducible refine Kd.C_alloc ?_ _) | (with_reducible refine Kd.C_drewN ?_ _) | (with_reducible refine Kd.C_drew ?_))); (case side2 => exact (Kd.S_reads' HO115.out).2.1); (case side3 => repeat (first | exact (Kd.S_reads' HO122.out).2.2 | (with_reducible refine Kd.C_alloc ?_ _) | (with_reducible refine Kd.C_drewN ?_ _) | (with_reducible refine Kd.C_drew ?_))); (case side4 => exact (Kd.S_reads' HO122.out).2.1); rintro e w' ⟨rfl, ⟨nd, rfl⟩⟩; obtain ⟨Ao46, co46, eo46⟩ := Kd.S_slice HO119.out; subst eo46) | (go_at_call 57; (with_reducible refine (mooringref02_Same.calls kj4 _ _ t116 _ _ t120 true _ ?side1 ?side2 ?side3 ?side4 A36.out).mono ?_); (case side1 => repeat (first | exact (Kd.S_reads' HO119.out).2.2 | (with_reducible refine Kd.C_alloc ?_ _) | (with_reducible refine Kd.C_drewN ?_ _) | (with_reducible refine Kd.C_drew ?_))); (case side2 => exact (Kd.S_reads' HO119.out).2.1); (case side3 => repeat (first | exact (Kd.S_reads' HO122.out).2.2 | (with_reducible refine Kd.C_alloc ?_ _) | (with_reducible refine Kd.C_drewN ?_ _) | (with_reducible refine Kd.C_drew ?_))); (case side4 => exact (Kd.S_reads' HO122.out).2.1); rintro e w' ⟨rfl, ⟨nd, rfl⟩⟩) | (go_at_call 51; (with_reducible refine (mooringlaw02_awake.calls  t125 _ A38.out).mono ?_); rintro e w47 ⟨rfl, hb⟩; have n0_ := Aside0.mk (Kd.S_below (by (with_reducible repeat (first | apply Kd.S_alloc | apply Kd.S_drewN | apply Kd.S_drew)); exact HO_3.out) hb); have n1_ := Aside0.mk (Kd.S_below (by (with_reducible repeat (first | apply Kd.S_alloc | apply Kd.S_drewN | apply Kd.S_drew)); exact HO115.out) hb); have n2_ := Aside0.mk (Kd.S_below (by (with_reducible repeat (first | apply Kd.S_alloc | apply Kd.S_drewN | apply Kd.S_drew)); exact HO119.out) hb); have n3_ := Aside0.mk (Kd.S_below (by (with_reducible repeat (first | apply Kd.S_alloc | apply Kd.S_drewN | apply Kd.S_drew)); exact HO122.out) hb); have n4_ := Aside0.mk (below_step (by repeat (first | (with_reducible first | exact HB.out | apply below_alloc | apply pw_below_drewN | apply below_drew1) | exact HB.out)) hb); clear HO_3; clear HO115; clear HO119; clear HO122; clear HB; have HO_3 := n0_; have HO115 := n1_; have HO119 := n2_; have HO122 := n3_; have HB := n4_; clear n0_ n1_ n2_ n3_ n4_; (try clear hb); (try clear hb2); (try clear hk); (try clear hi)))
                      go_ret
                      exact ⟨by first | rfl | (simp [errW_none, errW_some] <;> rfl) | (simp [*, errW_none, errW_some] <;> rfl), by repeat (first | (with_reducible first | exact HB.out | apply below_alloc | apply pw_below_drewN | apply below_drew1) | exact HB.out)⟩
                    · replace c37 := Bool.eq_false_iff.mpr c37
                      subst c37
                      have H1 : (some false) = some r := by rw [if_neg (show ¬ (false = true) by decide)] at H; exact H
                      clear H
                      have H := H1
                      clear H1
                      obtain rfl := Option.some.inj H
                      go_wp2_with (first | ((with_reducible refine gate_callee (f := 54) rfl ?_); refine goesL_ (some 42) rfl rfl Try.func54 (by kernel_rfl) rfl #[.slice A0 l0.length c0] rfl (by (try simp only [List.map_toArray, List.map_cons, List.map_nil]); first | done | rfl | (simp only [List.length_drop, List.length_take]; rfl)) ?_; (with_reducible refine (mooringref02_Rank.calls _ _ l0 t110 _ ?side1 ?side2 A17.out).mono ?_); (case side1 => repeat (first | exact (Kd.C_below HR0.out HB.out) | (with_reducible refine Kd.C_alloc ?_ _) | (with_reducible refine Kd.C_drewN ?_ _) | (with_reducible refine Kd.C_drew ?_))); (case side2 => exact HC0.out); rintro e w48 ⟨rfl, hb⟩; refine ⟨_, rfl, ?_⟩; have n0_ := Aside0.mk (Kd.S_below (by (with_reducible repeat (first | apply Kd.S_alloc | apply Kd.S_drewN | apply Kd.S_drew)); exact HO_3.out) hb); have n1_ := Aside0.mk (below_step (by repeat (first | (with_reducible first | exact HB.out | apply below_alloc | apply pw_below_drewN | apply below_drew1) | exact HB.out)) hb); clear HO_3; clear HB; have HO_3 := n0_; have HB := n1_; clear n0_ n1_; (try clear hb); (try clear hb2); (try clear hk); (try clear hi); obtain ⟨Ao49, co49, eo49⟩ := Kd.S_slice HO_3.out; subst eo49) | ((with_reducible refine gate_callee (f := 55) rfl ?_); refine goesL_ (some 59) rfl rfl Try.func55 (by kernel_rfl) rfl #[.slice A0 l0.length c0, .slice Ao49 t103.length co49] rfl (by (try simp only [List.map_toArray, List.map_cons, List.map_nil]); first | done | rfl | (simp only [List.length_drop, List.length_take]; rfl)) ?_; (with_reducible refine (mooringref02_Mul.calls kj4 _ _ l0 _ _ t103 t112 t113 _ ?side1 ?side2 ?side3 ?side4 A28.out).mono ?_); (case side1 => repeat (first | exact (Kd.C_below HR0.out HB.out) | (with_reducible refine Kd.C_alloc ?_ _) | (with_reducible refine Kd.C_drewN ?_ _) | (with_reducible refine Kd.C_drew ?_))); (case side2 => exact HC0.out); (case side3 => repeat (first | exact (Kd.S_reads' HO_3.out).2.2 | (with_reducible refine Kd.C_alloc ?_ _) | (with_reducible refine Kd.C_drewN ?_ _) | (with_reducible refine Kd.C_drew ?_))); (case side4 => exact (Kd.S_reads' HO_3.out).2.1); rintro e w50 ⟨v114, rfl, ho0, hb⟩; refine ⟨_, rfl, ?_⟩; have n0_ := Aside0.mk (Kd.S_elder' (by (with_reducible repeat (first | apply Kd.S_alloc | apply Kd.S_drewN | apply Kd.S_drew)); exact HO_3.out) (Kd.S_base ho0) hb); have n1_ := Aside0.mk (Kd.S_lower (Kd.S_new' ho0 (Kd.S_lt (by (with_reducible repeat (first | apply Kd.S_alloc | apply Kd.S_drewN | apply Kd.S_drew)); exact HO_3.out))) (below_size (by repeat (first | (with_reducible first | exact HB.out | apply below_alloc | apply pw_below_drewN | apply below_drew1) | exact HB.out)))); have n2_ := Aside0.mk (below_step (by repeat (first | (with_reducible first | exact HB.out | apply below_alloc | apply pw_below_drewN | apply below_drew1) | exact HB.out)) hb); clear HO_3; clear HB; have HO_3 := n0_; have HO115 := n1_; have HB := n2_; clear n0_ n1_ n2_; (try clear hb); (try clear hb2); (try clear hk); (try clear hi); (try clear ho0)) | ((with_reducible refine gate_callee (f := 55) rfl ?_); refine goesL_ (some 65) rfl rfl Try.func55 (by kernel_rfl) rfl #[.slice Ao49 t103.length co49, .slice A0 l0.length c0] rfl (by (try simp only [List.map_toArray, List.map_cons, List.map_nil]); first | done | rfl | (simp only [List.length_drop, List.length_take]; rfl)) ?_; (with_reducible refine (mooringref02_Mul.calls kj4 _ _ t103 _ _ l0 t116 t117 _ ?side1 ?side2 ?side3 ?side4 A29.out).mono ?_); (case side1 => repeat (first | exact (Kd.S_reads' HO_3.out).2.2 | (with_reducible refine Kd.C_alloc ?_ _) | (with_reducible refine Kd.C_drewN ?_ _) | (with_reducible refine Kd.C_drew ?_))); (case side2 => exact (Kd.S_reads' HO_3.out).2.1); (case side3 => repeat (first | exact (Kd.C_below HR0.out HB.out) | (with_reducible refine Kd.C_alloc ?_ _) | (with_reducible refine Kd.C_drewN ?_ _) | (with_reducible refine Kd.C_drew ?_))); (case side4 => exact HC0.out); rintro e w51 ⟨v118, rfl, ho0, hb⟩; refine ⟨_, rfl, ?_⟩; have n0_ := Aside0.mk (Kd.S_elder' (by (with_reducible repeat (first | apply Kd.S_alloc | apply Kd.S_drewN | apply Kd.S_drew)); exact HO_3.out) (Kd.S_base ho0) hb); have n1_ := Aside0.mk (Kd.S_elder' (by (with_reducible repeat (first | apply Kd.S_alloc | apply Kd.S_drewN | apply Kd.S_drew)); exact HO115.out) (Kd.S_base ho0) hb); have n2_ := Aside0.mk (Kd.S_lower (Kd.S_new' (Kd.S_new' ho0 (Kd.S_lt (by (with_reducible repeat (first | apply Kd.S_alloc | apply Kd.S_drewN | apply Kd.S_drew)); exact HO_3.out))) (Kd.S_lt (by (with_reducible repeat (first | apply Kd.S_alloc | apply Kd.S_drewN | apply Kd.S_drew)); exact HO115.out))) (below_size (by repeat (first | (with_reducible first | exact HB.out | apply below_alloc | apply pw_below_drewN | apply below_drew1) | exact HB.out)))); have n3_ := Aside0.mk (below_step (by repeat (first | (with_reducible first | exact HB.out | apply below_alloc | apply pw_below_drewN | apply below_drew1) | exact HB.out)) hb); clear HO_3; clear HO115; clear HB; have HO_3 := n0_; have HO115 := n1_; have HO119 := n2_; have HB := n3_; clear n0_ n1_ n2_ n3_; (try clear hb); (try clear hb2); (try clear hk); (try clear hi); (try clear ho0)) | ((with_reducible refine gate_callee (f := 56) rfl ?_); refine goesL_ (some 70) rfl rfl Try.func56 (by kernel_rfl) rfl #[.int .i64 (l0.length : Int)] rfl (by (try simp only [List.map_toArray, List.map_cons, List.map_nil]); first | done | rfl | (simp only [List.length_drop, List.length_take]; rfl)) ?_; (with_reducible refine (mooringref02_Identity.calls kj4 (l0.length : Int) t120 _ A30.out).mono ?_); rintro e w52 ⟨v121, rfl, ho0, hb⟩; refine ⟨_, rfl, ?_⟩; have n0_ := Aside0.mk (Kd.S_elder' (by (with_reducible repeat (first | apply Kd.S_alloc | apply Kd.S_drewN | apply Kd.S_drew)); exact HO_3.out) (Kd.S_base ho0) hb); have n1_ := Aside0.mk (Kd.S_elder' (by (with_reducible repeat (first | apply Kd.S_alloc | apply Kd.S_drewN | apply Kd.S_drew)); exact HO115.out) (Kd.S_base ho0) hb); have n2_ := Aside0.mk (Kd.S_elder' (by (with_reducible repeat (first | apply Kd.S_alloc | apply Kd.S_drewN | apply Kd.S_drew)); exact HO119.out) (Kd.S_base ho0) hb); have n3_ := Aside0.mk (Kd.S_lower (Kd.S_new' (Kd.S_new' (Kd.S_new' ho0 (Kd.S_lt (by (with_reducible repeat (first | apply Kd.S_alloc | apply Kd.S_drewN | apply Kd.S_drew)); exact HO_3.out))) (Kd.S_lt (by (with_reducible repeat (first | apply Kd.S_alloc | apply Kd.S_drewN | apply Kd.S_drew)); exact HO115.out))) (Kd.S_lt (by (with_reducible repeat (first | apply Kd.S_alloc | apply Kd.S_drewN | apply Kd.S_drew)); exact HO119.out))) (below_size (by repeat (first | (with_reducible first | exact HB.out | apply below_alloc | apply pw_below_drewN | apply below_drew1) | exact HB.out)))); have n4_ := Aside0.mk (below_step (by repeat (first | (with_reducible first | exact HB.out | apply below_alloc | apply pw_below_drewN | apply below_drew1) | exact HB.out)) hb); clear HO_3; clear HO115; clear HO119; clear HB; have HO_3 := n0_; have HO115 := n1_; have HO119 := n2_; have HO122 := n3_; have HB := n4_; clear n0_ n1_ n2_ n3_ n4_; (try clear hb); (try clear hb2); (try clear hk); (try clear hi); (try clear ho0); obtain ⟨Ao53, co53, eo53⟩ := Kd.S_slice HO115.out; subst eo53; obtain ⟨Ao54, co54, eo54⟩ := Kd.S_slice HO122.out; subst eo54) | (go_at_call 57; (with_reducible refine (mooringref02_Same.calls kj4 _ _ t112 _ _ t120 true _ ?side1 ?side2 ?side3 ?side4 A34.out).mono ?_); (case side1 => repeat (first | exact (Kd.S_reads' HO115.out).2.2 | (with_reducible refine Kd.C_alloc ?_ _) | (with_reducible refine Kd.C_drewN ?_ _) | (with_reducible refine Kd.C_drew ?_))); (case side2 => exact (Kd.S_reads' HO115.out).2.1); (case side3 => repeat (first | exact (Kd.S_reads' HO122.out).2.2 | (with_reducible refine Kd.C_alloc ?_ _) | (with_reducible refine Kd.C_drewN ?_ _) | (with_reducible refine Kd.C_drew ?_))); (case side4 => exact (Kd.S_reads' HO122.out).2.1); rintro e w' ⟨rfl, ⟨nd, rfl⟩⟩; obtain ⟨Ao55, co55, eo55⟩ := Kd.S_slice HO119.out; subst eo55) | (go_at_call 57; (with_reducible refine (mooringref02_Same.calls kj4 _ _ t116 _ _ t120 false _ ?side1 ?side2 ?side3 ?side4 A36.out).mono ?_); (case side1 => repeat (first | exact (Kd.S_reads' HO119.out).2.2 | (with_reducible refine Kd.C_alloc ?_ _) | (with_reducible refine Kd.C_drewN ?_ _) | (with_reducible refine Kd.C_drew ?_))); (case side2 => exact (Kd.S_reads' HO119.out).2.1); (case side3 => repeat (first | exact (Kd.S_reads' HO122.out).2.2 | (with_reducible refine Kd.C_alloc ?_ _) | (with_reducible refine Kd.C_drewN ?_ _) | (with_reducible refine Kd.C_drew ?_))); (case side4 => exact (Kd.S_reads' HO122.out).2.1); rintro e w' ⟨rfl, ⟨nd, rfl⟩⟩))
                      go_ret
                      exact ⟨by first | rfl | (simp [errW_none, errW_some] <;> rfl) | (simp [*, errW_none, errW_some] <;> rfl), by repeat (first | (with_reducible first | exact HB.out | apply below_alloc | apply pw_below_drewN | apply below_drew1) | exact HB.out)⟩
                  · replace c35 := Bool.eq_false_iff.mpr c35
                    subst c35
                    have H1 : (some false) = some r := by rw [if_neg (show ¬ (false = true) by decide)] at H; exact H
                    clear H
                    have H := H1
                    clear H1
                    obtain rfl := Option.some.inj H
                    go_wp2_with (first | ((with_reducible refine gate_callee (f := 54) rfl ?_); refine goesL_ (some 42) rfl rfl Try.func54 (by kernel_rfl) rfl #[.slice A0 l0.length c0] rfl (by (try simp only [List.map_toArray, List.map_cons, List.map_nil]); first | done | rfl | (simp only [List.length_drop, List.length_take]; rfl)) ?_; (with_reducible refine (mooringref02_Rank.calls _ _ l0 t110 _ ?side1 ?side2 A17.out).mono ?_); (case side1 => repeat (first | exact (Kd.C_below HR0.out HB.out) | (with_reducible refine Kd.C_alloc ?_ _) | (with_reducible refine Kd.C_drewN ?_ _) | (with_reducible refine Kd.C_drew ?_))); (case side2 => exact HC0.out); rintro e w56 ⟨rfl, hb⟩; refine ⟨_, rfl, ?_⟩; have n0_ := Aside0.mk (Kd.S_below (by (with_reducible repeat (first | apply Kd.S_alloc | apply Kd.S_drewN | apply Kd.S_drew)); exact HO_3.out) hb); have n1_ := Aside0.mk (below_step (by repeat (first | (with_reducible first | exact HB.out | apply below_alloc | apply pw_below_drewN | apply below_drew1) | exact HB.out)) hb); clear HO_3; clear HB; have HO_3 := n0_; have HB := n1_; clear n0_ n1_; (try clear hb); (try clear hb2); (try clear hk); (try clear hi); obtain ⟨Ao57, co57, eo57⟩ := Kd.S_slice HO_3.out; subst eo57) | ((with_reducible refine gate_callee (f := 55) rfl ?_); refine goesL_ (some 59) rfl rfl Try.func55 (by kernel_rfl) rfl #[.slice A0 l0.length c0, .slice Ao57 t103.length co57] rfl (by (try simp only [List.map_toArray, List.map_cons, List.map_nil]); first | done | rfl | (simp only [List.length_drop, List.length_take]; rfl)) ?_; (with_reducible refine (mooringref02_Mul.calls kj4 _ _ l0 _ _ t103 t112 t113 _ ?side1 ?side2 ?side3 ?side4 A28.out).mono ?_); (case side1 => repeat (first | exact (Kd.C_below HR0.out HB.out) | (with_reducible refine Kd.C_alloc ?_ _) | (with_reducible refine Kd.C_drewN ?_ _) | (with_reducible refine Kd.C_drew ?_))); (case side2 => exact HC0.out); (case side3 => repeat (first | exact (Kd.S_reads' HO_3.out).2.2 | (with_reducible refine Kd.C_alloc ?_ _) | (with_reducible refine Kd.C_drewN ?_ _) | (with_reducible refine Kd.C_drew ?_))); (case side4 => exact (Kd.S_reads' HO_3.out).2.1); rintro e w58 ⟨v114, rfl, ho0, hb⟩; refine ⟨_, rfl, ?_⟩; have n0_ := Aside0.mk (Kd.S_elder' (by (with_reducible repeat (first | apply Kd.S_alloc | apply Kd.S_drewN | apply Kd.S_drew)); exact HO_3.out) (Kd.S_base ho0) hb); have n1_ := Aside0.mk (Kd.S_lower (Kd.S_new' ho0 (Kd.S_lt (by (with_reducible repeat (first | apply Kd.S_alloc | apply Kd.S_drewN | apply Kd.S_drew)); exact HO_3.out))) (below_size (by repeat (first | (with_reducible first | exact HB.out | apply below_alloc | apply pw_below_drewN | apply below_drew1) | exact HB.out)))); have n2_ := Aside0.mk (below_step (by repeat (first | (with_reducible first | exact HB.out | apply below_alloc | apply pw_below_drewN | apply below_drew1) | exact HB.out)) hb); clear HO_3; clear HB; have HO_3 := n0_; have HO115 := n1_; have HB := n2_; clear n0_ n1_ n2_; (try clear hb); (try clear hb2); (try clear hk); (try clear hi); (try clear ho0)) | ((with_reducible refine gate_callee (f := 55) rfl ?_); refine goesL_ (some 65) rfl rfl Try.func55 (by kernel_rfl) rfl #[.slice Ao57 t103.length co57, .slice A0 l0.length c0] rfl (by (try simp only [List.map_toArray, List.map_cons, List.map_nil]); first | done | rfl | (simp only [List.length_drop, List.length_take]; rfl)) ?_; (with_reducible refine (mooringref02_Mul.calls kj4 _ _ t103 _ _ l0 t116 t117 _ ?side1 ?side2 ?side3 ?side4 A29.out).mono ?_); (case side1 => repeat (first | exact (Kd.S_reads' HO_3.out).2.2 | (with_reducible refine Kd.C_alloc ?_ _) | (with_reducible refine Kd.C_drewN ?_ _) | (with_reducible refine Kd.C_drew ?_))); (case side2 => exact (Kd.S_reads' HO_3.out).2.1); (case side3 => repeat (first | exact (Kd.C_below HR0.out HB.out) | (with_reducible refine Kd.C_alloc ?_ _) | (with_reducible refine Kd.C_drewN ?_ _) | (with_reducible refine Kd.C_drew ?_))); (case side4 => exact HC0.out); rintro e w59 ⟨v118, rfl, ho0, hb⟩; refine ⟨_, rfl, ?_⟩; have n0_ := Aside0.mk (Kd.S_elder' (by (with_reducible repeat (first | apply Kd.S_alloc | apply Kd.S_drewN | apply Kd.S_drew)); exact HO_3.out) (Kd.S_base ho0) hb); have n1_ := Aside0.mk (Kd.S_elder' (by (with_reducible repeat (first | apply Kd.S_alloc | apply Kd.S_drewN | apply Kd.S_drew)); exact HO115.out) (Kd.S_base ho0) hb); have n2_ := Aside0.mk (Kd.S_lower (Kd.S_new' (Kd.S_new' ho0 (Kd.S_lt (by (with_reducible repeat (first | apply Kd.S_alloc | apply Kd.S_drewN | apply Kd.S_drew)); exact HO_3.out))) (Kd.S_lt (by (with_reducible repeat (first | apply Kd.S_alloc | apply Kd.S_drewN | apply Kd.S_drew)); exact HO115.out))) (below_size (by repeat (first | (with_reducible first | exact HB.out | apply below_alloc | apply pw_below_drewN | apply below_drew1) | exact HB.out)))); have n3_ := Aside0.mk (below_step (by repeat (first | (with_reducible first | exact HB.out | apply below_alloc | apply pw_below_drewN | apply below_drew1) | exact HB.out)) hb); clear HO_3; clear HO115; clear HB; have HO_3 := n0_; have HO115 := n1_; have HO119 := n2_; have HB := n3_; clear n0_ n1_ n2_ n3_; (try clear hb); (try clear hb2); (try clear hk); (try clear hi); (try clear ho0)) | ((with_reducible refine gate_callee (f := 56) rfl ?_); refine goesL_ (some 70) rfl rfl Try.func56 (by kernel_rfl) rfl #[.int .i64 (l0.length : Int)] rfl (by (try simp only [List.map_toArray, List.map_cons, List.map_nil]); first | done | rfl | (simp only [List.length_drop, List.length_take]; rfl)) ?_; (with_reducible refine (mooringref02_Identity.calls kj4 (l0.length : Int) t120 _ A30.out).mono ?_); rintro e w60 ⟨v121, rfl, ho0, hb⟩; refine ⟨_, rfl, ?_⟩; have n0_ := Aside0.mk (Kd.S_elder' (by (with_reducible repeat (first | apply Kd.S_alloc | apply Kd.S_drewN | apply Kd.S_drew)); exact HO_3.out) (Kd.S_base ho0) hb); have n1_ := Aside0.mk (Kd.S_elder' (by (with_reducible repeat (first | apply Kd.S_alloc | apply Kd.S_drewN | apply Kd.S_drew)); exact HO115.out) (Kd.S_base ho0) hb); have n2_ := Aside0.mk (Kd.S_elder' (by (with_reducible repeat (first | apply Kd.S_alloc | apply Kd.S_drewN | apply Kd.S_drew)); exact HO119.out) (Kd.S_base ho0) hb); have n3_ := Aside0.mk (Kd.S_lower (Kd.S_new' (Kd.S_new' (Kd.S_new' ho0 (Kd.S_lt (by (with_reducible repeat (first | apply Kd.S_alloc | apply Kd.S_drewN | apply Kd.S_drew)); exact HO_3.out))) (Kd.S_lt (by (with_reducible repeat (first | apply Kd.S_alloc | apply Kd.S_drewN | apply Kd.S_drew)); exact HO115.out))) (Kd.S_lt (by (with_reducible repeat (first | apply Kd.S_alloc | apply Kd.S_drewN | apply Kd.S_drew)); exact HO119.out))) (below_size (by repeat (first | (with_reducible first | exact HB.out | apply below_alloc | apply pw_below_drewN | apply below_drew1) | exact HB.out)))); have n4_ := Aside0.mk (below_step (by repeat (first | (with_reducible first | exact HB.out | apply below_alloc | apply pw_below_drewN | apply below_drew1) | exact HB.out)) hb); clear HO_3; clear HO115; clear HO119; clear HB; have HO_3 := n0_; have HO115 := n1_; have HO119 := n2_; have HO122 := n3_; have HB := n4_; clear n0_ n1_ n2_ n3_ n4_; (try clear hb); (try clear hb2); (try clear hk); (try clear hi); (try clear ho0); obtain ⟨Ao61, co61, eo61⟩ := Kd.S_slice HO115.out; subst eo61; obtain ⟨Ao62, co62, eo62⟩ := Kd.S_slice HO122.out; subst eo62) | (go_at_call 57; (with_reducible refine (mooringref02_Same.calls kj4 _ _ t112 _ _ t120 false _ ?side1 ?side2 ?side3 ?side4 A34.out).mono ?_); (case side1 => repeat (first | exact (Kd.S_reads' HO115.out).2.2 | (with_reducible refine Kd.C_alloc ?_ _) | (with_reducible refine Kd.C_drewN ?_ _) | (with_reducible refine Kd.C_drew ?_))); (case side2 => exact (Kd.S_reads' HO115.out).2.1); (case side3 => repeat (first | exact (Kd.S_reads' HO122.out).2.2 | (with_reducible refine Kd.C_alloc ?_ _) | (with_reducible refine Kd.C_drewN ?_ _) | (with_reducible refine Kd.C_drew ?_))); (case side4 => exact (Kd.S_reads' HO122.out).2.1); rintro e w' ⟨rfl, ⟨nd, rfl⟩⟩))
                    go_ret
                    exact ⟨by first | rfl | (simp [errW_none, errW_some] <;> rfl) | (simp [*, errW_none, errW_some] <;> rfl), by repeat (first | (with_reducible first | exact HB.out | apply below_alloc | apply pw_below_drewN | apply below_drew1) | exact HB.out)⟩
                · rw [if_neg c33] at H
                  have c33b0 : (t117 == 0) = false := beq_eq_false_iff_ne.mpr c33
                  have c33b1 : (t117 != 0) = true := bne_iff_ne.mpr c33
                  obtain rfl := Option.some.inj H
                  go_wp2_with (first | ((with_reducible refine gate_callee (f := 54) rfl ?_); refine goesL_ (some 42) rfl rfl Try.func54 (by kernel_rfl) rfl #[.slice A0 l0.length c0] rfl (by (try simp only [List.map_toArray, List.map_cons, List.map_nil]); first | done | rfl | (simp only [List.length_drop, List.length_take]; rfl)) ?_; (with_reducible refine (mooringref02_Rank.calls _ _ l0 t110 _ ?side1 ?side2 A17.out).mono ?_); (case side1 => repeat (first | exact (Kd.C_below HR0.out HB.out) | (with_reducible refine Kd.C_alloc ?_ _) | (with_reducible refine Kd.C_drewN ?_ _) | (with_reducible refine Kd.C_drew ?_))); (case side2 => exact HC0.out); rintro e w63 ⟨rfl, hb⟩; refine ⟨_, rfl, ?_⟩; have n0_ := Aside0.mk (Kd.S_below (by (with_reducible repeat (first | apply Kd.S_alloc | apply Kd.S_drewN | apply Kd.S_drew)); exact HO_3.out) hb); have n1_ := Aside0.mk (below_step (by repeat (first | (with_reducible first | exact HB.out | apply below_alloc | apply pw_below_drewN | apply below_drew1) | exact HB.out)) hb); clear HO_3; clear HB; have HO_3 := n0_; have HB := n1_; clear n0_ n1_; (try clear hb); (try clear hb2); (try clear hk); (try clear hi); obtain ⟨Ao64, co64, eo64⟩ := Kd.S_slice HO_3.out; subst eo64) | ((with_reducible refine gate_callee (f := 55) rfl ?_); refine goesL_ (some 59) rfl rfl Try.func55 (by kernel_rfl) rfl #[.slice A0 l0.length c0, .slice Ao64 t103.length co64] rfl (by (try simp only [List.map_toArray, List.map_cons, List.map_nil]); first | done | rfl | (simp only [List.length_drop, List.length_take]; rfl)) ?_; (with_reducible refine (mooringref02_Mul.calls kj4 _ _ l0 _ _ t103 t112 t113 _ ?side1 ?side2 ?side3 ?side4 A28.out).mono ?_); (case side1 => repeat (first | exact (Kd.C_below HR0.out HB.out) | (with_reducible refine Kd.C_alloc ?_ _) | (with_reducible refine Kd.C_drewN ?_ _) | (with_reducible refine Kd.C_drew ?_))); (case side2 => exact HC0.out); (case side3 => repeat (first | exact (Kd.S_reads' HO_3.out).2.2 | (with_reducible refine Kd.C_alloc ?_ _) | (with_reducible refine Kd.C_drewN ?_ _) | (with_reducible refine Kd.C_drew ?_))); (case side4 => exact (Kd.S_reads' HO_3.out).2.1); rintro e w65 ⟨v114, rfl, ho0, hb⟩; refine ⟨_, rfl, ?_⟩; have n0_ := Aside0.mk (Kd.S_elder' (by (with_reducible repeat (first | apply Kd.S_alloc | apply Kd.S_drewN | apply Kd.S_drew)); exact HO_3.out) (Kd.S_base ho0) hb); have n1_ := Aside0.mk (Kd.S_lower (Kd.S_new' ho0 (Kd.S_lt (by (with_reducible repeat (first | apply Kd.S_alloc | apply Kd.S_drewN | apply Kd.S_drew)); exact HO_3.out))) (below_size (by repeat (first | (with_reducible first | exact HB.out | apply below_alloc | apply pw_below_drewN | apply below_drew1) | exact HB.out)))); have n2_ := Aside0.mk (below_step (by repeat (first | (with_reducible first | exact HB.out | apply below_alloc | apply pw_below_drewN | apply below_drew1) | exact HB.out)) hb); clear HO_3; clear HB; have HO_3 := n0_; have HO115 := n1_; have HB := n2_; clear n0_ n1_ n2_; (try clear hb); (try clear hb2); (try clear hk); (try clear hi); (try clear ho0)) | ((with_reducible refine gate_callee (f := 55) rfl ?_); refine goesL_ (some 65) rfl rfl Try.func55 (by kernel_rfl) rfl #[.slice Ao64 t103.length co64, .slice A0 l0.length c0] rfl (by (try simp only [List.map_toArray, List.map_cons, List.map_nil]); first | done | rfl | (simp only [List.length_drop, List.length_take]; rfl)) ?_; (with_reducible refine (mooringref02_Mul.calls kj4 _ _ t103 _ _ l0 t116 t117 _ ?side1 ?side2 ?side3 ?side4 A29.out).mono ?_); (case side1 => repeat (first | exact (Kd.S_reads' HO_3.out).2.2 | (with_reducible refine Kd.C_alloc ?_ _) | (with_reducible refine Kd.C_drewN ?_ _) | (with_reducible refine Kd.C_drew ?_))); (case side2 => exact (Kd.S_reads' HO_3.out).2.1); (case side3 => repeat (first | exact (Kd.C_below HR0.out HB.out) | (with_reducible refine Kd.C_alloc ?_ _) | (with_reducible refine Kd.C_drewN ?_ _) | (with_reducible refine Kd.C_drew ?_))); (case side4 => exact HC0.out); rintro e w66 ⟨v118, rfl, ho0, hb⟩; refine ⟨_, rfl, ?_⟩; have n0_ := Aside0.mk (Kd.S_elder' (by (with_reducible repeat (first | apply Kd.S_alloc | apply Kd.S_drewN | apply Kd.S_drew)); exact HO_3.out) (Kd.S_base ho0) hb); have n1_ := Aside0.mk (Kd.S_elder' (by (with_reducible repeat (first | apply Kd.S_alloc | apply Kd.S_drewN | apply Kd.S_drew)); exact HO115.out) (Kd.S_base ho0) hb); have n2_ := Aside0.mk (Kd.S_lower (Kd.S_new' (Kd.S_new' ho0 (Kd.S_lt (by (with_reducible repeat (first | apply Kd.S_alloc | apply Kd.S_drewN | apply Kd.S_drew)); exact HO_3.out))) (Kd.S_lt (by (with_reducible repeat (first | apply Kd.S_alloc | apply Kd.S_drewN | apply Kd.S_drew)); exact HO115.out))) (below_size (by repeat (first | (with_reducible first | exact HB.out | apply below_alloc | apply pw_below_drewN | apply below_drew1) | exact HB.out)))); have n3_ := Aside0.mk (below_step (by repeat (first | (with_reducible first | exact HB.out | apply below_alloc | apply pw_below_drewN | apply below_drew1) | exact HB.out)) hb); clear HO_3; clear HO115; clear HB; have HO_3 := n0_; have HO115 := n1_; have HO119 := n2_; have HB := n3_; clear n0_ n1_ n2_ n3_; (try clear hb); (try clear hb2); (try clear hk); (try clear hi); (try clear ho0)) | ((with_reducible refine gate_callee (f := 56) rfl ?_); refine goesL_ (some 70) rfl rfl Try.func56 (by kernel_rfl) rfl #[.int .i64 (l0.length : Int)] rfl (by (try simp only [List.map_toArray, List.map_cons, List.map_nil]); first | done | rfl | (simp only [List.length_drop, List.length_take]; rfl)) ?_; (with_reducible refine (mooringref02_Identity.calls kj4 (l0.length : Int) t120 _ A30.out).mono ?_); rintro e w67 ⟨v121, rfl, ho0, hb⟩; refine ⟨_, rfl, ?_⟩; have n0_ := Aside0.mk (Kd.S_elder' (by (with_reducible repeat (first | apply Kd.S_alloc | apply Kd.S_drewN | apply Kd.S_drew)); exact HO_3.out) (Kd.S_base ho0) hb); have n1_ := Aside0.mk (Kd.S_elder' (by (with_reducible repeat (first | apply Kd.S_alloc | apply Kd.S_drewN | apply Kd.S_drew)); exact HO115.out) (Kd.S_base ho0) hb); have n2_ := Aside0.mk (Kd.S_elder' (by (with_reducible repeat (first | apply Kd.S_alloc | apply Kd.S_drewN | apply Kd.S_drew)); exact HO119.out) (Kd.S_base ho0) hb); have n3_ := Aside0.mk (Kd.S_lower (Kd.S_new' (Kd.S_new' (Kd.S_new' ho0 (Kd.S_lt (by (with_reducible repeat (first | apply Kd.S_alloc | apply Kd.S_drewN | apply Kd.S_drew)); exact HO_3.out))) (Kd.S_lt (by (with_reducible repeat (first | apply Kd.S_alloc | apply Kd.S_drewN | apply Kd.S_drew)); exact HO115.out))) (Kd.S_lt (by (with_reducible repeat (first | apply Kd.S_alloc | apply Kd.S_drewN | apply Kd.S_drew)); exact HO119.out))) (below_size (by repeat (first | (with_reducible first | exact HB.out | apply below_alloc | apply pw_below_drewN | apply below_drew1) | exact HB.out)))); have n4_ := Aside0.mk (below_step (by repeat (first | (with_reducible first | exact HB.out | apply below_alloc | apply pw_below_drewN | apply below_drew1) | exact HB.out)) hb); clear HO_3; clear HO115; clear HO119; clear HB; have HO_3 := n0_; have HO115 := n1_; have HO119 := n2_; have HO122 := n3_; have HB := n4_; clear n0_ n1_ n2_ n3_ n4_; (try clear hb); (try clear hb2); (try clear hk); (try clear hi); (try clear ho0)))
                  go_ret
                  exact ⟨by first | rfl | (simp [errW_none, errW_some] <;> rfl) | (simp [*, errW_none, errW_some] <;> rfl), by repeat (first | (with_reducible first | exact HB.out | apply below_alloc | apply pw_below_drewN | apply below_drew1) | exact HB.out)⟩
              · rw [if_neg c32] at H
                have c32b0 : (t113 == 0) = false := beq_eq_false_iff_ne.mpr c32
                have c32b1 : (t113 != 0) = true := bne_iff_ne.mpr c32
                obtain rfl := Option.some.inj H
                go_wp2_with (first | ((with_reducible refine gate_callee (f := 54) rfl ?_); refine goesL_ (some 42) rfl rfl Try.func54 (by kernel_rfl) rfl #[.slice A0 l0.length c0] rfl (by (try simp only [List.map_toArray, List.map_cons, List.map_nil]); first | done | rfl | (simp only [List.length_drop, List.length_take]; rfl)) ?_; (with_reducible refine (mooringref02_Rank.calls _ _ l0 t110 _ ?side1 ?side2 A17.out).mono ?_); (case side1 => repeat (first | exact (Kd.C_below HR0.out HB.out) | (with_reducible refine Kd.C_alloc ?_ _) | (with_reducible refine Kd.C_drewN ?_ _) | (with_reducible refine Kd.C_drew ?_))); (case side2 => exact HC0.out); rintro e w68 ⟨rfl, hb⟩; refine ⟨_, rfl, ?_⟩; have n0_ := Aside0.mk (Kd.S_below (by (with_reducible repeat (first | apply Kd.S_alloc | apply Kd.S_drewN | apply Kd.S_drew)); exact HO_3.out) hb); have n1_ := Aside0.mk (below_step (by repeat (first | (with_reducible first | exact HB.out | apply below_alloc | apply pw_below_drewN | apply below_drew1) | exact HB.out)) hb); clear HO_3; clear HB; have HO_3 := n0_; have HB := n1_; clear n0_ n1_; (try clear hb); (try clear hb2); (try clear hk); (try clear hi); obtain ⟨Ao69, co69, eo69⟩ := Kd.S_slice HO_3.out; subst eo69) | ((with_reducible refine gate_callee (f := 55) rfl ?_); refine goesL_ (some 59) rfl rfl Try.func55 (by kernel_rfl) rfl #[.slice A0 l0.length c0, .slice Ao69 t103.length co69] rfl (by (try simp only [List.map_toArray, List.map_cons, List.map_nil]); first | done | rfl | (simp only [List.length_drop, List.length_take]; rfl)) ?_; (with_reducible refine (mooringref02_Mul.calls kj4 _ _ l0 _ _ t103 t112 t113 _ ?side1 ?side2 ?side3 ?side4 A28.out).mono ?_); (case side1 => repeat (first | exact (Kd.C_below HR0.out HB.out) | (with_reducible refine Kd.C_alloc ?_ _) | (with_reducible refine Kd.C_drewN ?_ _) | (with_reducible refine Kd.C_drew ?_))); (case side2 => exact HC0.out); (case side3 => repeat (first | exact (Kd.S_reads' HO_3.out).2.2 | (with_reducible refine Kd.C_alloc ?_ _) | (with_reducible refine Kd.C_drewN ?_ _) | (with_reducible refine Kd.C_drew ?_))); (case side4 => exact (Kd.S_reads' HO_3.out).2.1); rintro e w70 ⟨v114, rfl, ho0, hb⟩; refine ⟨_, rfl, ?_⟩; have n0_ := Aside0.mk (Kd.S_elder' (by (with_reducible repeat (first | apply Kd.S_alloc | apply Kd.S_drewN | apply Kd.S_drew)); exact HO_3.out) (Kd.S_base ho0) hb); have n1_ := Aside0.mk (Kd.S_lower (Kd.S_new' ho0 (Kd.S_lt (by (with_reducible repeat (first | apply Kd.S_alloc | apply Kd.S_drewN | apply Kd.S_drew)); exact HO_3.out))) (below_size (by repeat (first | (with_reducible first | exact HB.out | apply below_alloc | apply pw_below_drewN | apply below_drew1) | exact HB.out)))); have n2_ := Aside0.mk (below_step (by repeat (first | (with_reducible first | exact HB.out | apply below_alloc | apply pw_below_drewN | apply below_drew1) | exact HB.out)) hb); clear HO_3; clear HB; have HO_3 := n0_; have HO115 := n1_; have HB := n2_; clear n0_ n1_ n2_; (try clear hb); (try clear hb2); (try clear hk); (try clear hi); (try clear ho0)) | ((with_reducible refine gate_callee (f := 55) rfl ?_); refine goesL_ (some 65) rfl rfl Try.func55 (by kernel_rfl) rfl #[.slice Ao69 t103.length co69, .slice A0 l0.length c0] rfl (by (try simp only [List.map_toArray, List.map_cons, List.map_nil]); first | done | rfl | (simp only [List.length_drop, List.length_take]; rfl)) ?_; (with_reducible refine (mooringref02_Mul.calls kj4 _ _ t103 _ _ l0 t116 t117 _ ?side1 ?side2 ?side3 ?side4 A29.out).mono ?_); (case side1 => repeat (first | exact (Kd.S_reads' HO_3.out).2.2 | (with_reducible refine Kd.C_alloc ?_ _) | (with_reducible refine Kd.C_drewN ?_ _) | (with_reducible refine Kd.C_drew ?_))); (case side2 => exact (Kd.S_reads' HO_3.out).2.1); (case side3 => repeat (first | exact (Kd.C_below HR0.out HB.out) | (with_reducible refine Kd.C_alloc ?_ _) | (with_reducible refine Kd.C_drewN ?_ _) | (with_reducible refine Kd.C_drew ?_))); (case side4 => exact HC0.out); rintro e w71 ⟨v118, rfl, ho0, hb⟩; refine ⟨_, rfl, ?_⟩; have n0_ := Aside0.mk (Kd.S_elder' (by (with_reducible repeat (first | apply Kd.S_alloc | apply Kd.S_drewN | apply Kd.S_drew)); exact HO_3.out) (Kd.S_base ho0) hb); have n1_ := Aside0.mk (Kd.S_elder' (by (with_reducible repeat (first | apply Kd.S_alloc | apply Kd.S_drewN | apply Kd.S_drew)); exact HO115.out) (Kd.S_base ho0) hb); have n2_ := Aside0.mk (Kd.S_lower (Kd.S_new' (Kd.S_new' ho0 (Kd.S_lt (by (with_reducible repeat (first | apply Kd.S_alloc | apply Kd.S_drewN | apply Kd.S_drew)); exact HO_3.out))) (Kd.S_lt (by (with_reducible repeat (first | apply Kd.S_alloc | apply Kd.S_drewN | apply Kd.S_drew)); exact HO115.out))) (below_size (by repeat (first | (with_reducible first | exact HB.out | apply below_alloc | apply pw_below_drewN | apply below_drew1) | exact HB.out)))); have n3_ := Aside0.mk (below_step (by repeat (first | (with_reducible first | exact HB.out | apply below_alloc | apply pw_below_drewN | apply below_drew1) | exact HB.out)) hb); clear HO_3; clear HO115; clear HB; have HO_3 := n0_; have HO115 := n1_; have HO119 := n2_; have HB := n3_; clear n0_ n1_ n2_ n3_; (try clear hb); (try clear hb2); (try clear hk); (try clear hi); (try clear ho0)) | ((with_reducible refine gate_callee (f := 56) rfl ?_); refine goesL_ (some 70) rfl rfl Try.func56 (by kernel_rfl) rfl #[.int .i64 (l0.length : Int)] rfl (by (try simp only [List.map_toArray, List.map_cons, List.map_nil]); first | done | rfl | (simp only [List.length_drop, List.length_take]; rfl)) ?_; (with_reducible refine (mooringref02_Identity.calls kj4 (l0.length : Int) t120 _ A30.out).mono ?_); rintro e w72 ⟨v121, rfl, ho0, hb⟩; refine ⟨_, rfl, ?_⟩; have n0_ := Aside0.mk (Kd.S_elder' (by (with_reducible repeat (first | apply Kd.S_alloc | apply Kd.S_drewN | apply Kd.S_drew)); exact HO_3.out) (Kd.S_base ho0) hb); have n1_ := Aside0.mk (Kd.S_elder' (by (with_reducible repeat (first | apply Kd.S_alloc | apply Kd.S_drewN | apply Kd.S_drew)); exact HO115.out) (Kd.S_base ho0) hb); have n2_ := Aside0.mk (Kd.S_elder' (by (with_reducible repeat (first | apply Kd.S_alloc | apply Kd.S_drewN | apply Kd.S_drew)); exact HO119.out) (Kd.S_base ho0) hb); have n3_ := Aside0.mk (Kd.S_lower (Kd.S_new' (Kd.S_new' (Kd.S_new' ho0 (Kd.S_lt (by (with_reducible repeat (first | apply Kd.S_alloc | apply Kd.S_drewN | apply Kd.S_drew)); exact HO_3.out))) (Kd.S_lt (by (with_reducible repeat (first | apply Kd.S_alloc | apply Kd.S_drewN | apply Kd.S_drew)); exact HO115.out))) (Kd.S_lt (by (with_reducible repeat (first | apply Kd.S_alloc | apply Kd.S_drewN | apply Kd.S_drew)); exact HO119.out))) (below_size (by repeat (first | (with_reducible first | exact HB.out | apply below_alloc | apply pw_below_drewN | apply below_drew1) | exact HB.out)))); have n4_ := Aside0.mk (below_step (by repeat (first | (with_reducible first | exact HB.out | apply below_alloc | apply pw_below_drewN | apply below_drew1) | exact HB.out)) hb); clear HO_3; clear HO115; clear HO119; clear HB; have HO_3 := n0_; have HO115 := n1_; have HO119 := n2_; have HO122 := n3_; have HB := n4_; clear n0_ n1_ n2_ n3_ n4_; (try clear hb); (try clear hb2); (try clear hk); (try clear hi); (try clear ho0)))
                go_ret
                exact ⟨by first | rfl | (simp [errW_none, errW_some] <;> rfl) | (simp [*, errW_none, errW_some] <;> rfl), by repeat (first | (with_reducible first | exact HB.out | apply below_alloc | apply pw_below_drewN | apply below_drew1) | exact HB.out)⟩
            · rw [if_neg c31] at H
              have c31b0 : (t104 == 0) = false := beq_eq_false_iff_ne.mpr c31
              have c31b1 : (t104 != 0) = true := bne_iff_ne.mpr c31
              obtain rfl := Option.some.inj H
              go_wp2_with (first | ((with_reducible refine gate_callee (f := 54) rfl ?_); refine goesL_ (some 42) rfl rfl Try.func54 (by kernel_rfl) rfl #[.slice A0 l0.length c0] rfl (by (try simp only [List.map_toArray, List.map_cons, List.map_nil]); first | done | rfl | (simp only [List.length_drop, List.length_take]; rfl)) ?_; (with_reducible refine (mooringref02_Rank.calls _ _ l0 t110 _ ?side1 ?side2 A17.out).mono ?_); (case side1 => repeat (first | exact (Kd.C_below HR0.out HB.out) | (with_reducible refine Kd.C_alloc ?_ _) | (with_reducible refine Kd.C_drewN ?_ _) | (with_reducible refine Kd.C_drew ?_))); (case side2 => exact HC0.out); rintro e w73 ⟨rfl, hb⟩; refine ⟨_, rfl, ?_⟩; have n0_ := Aside0.mk (Kd.S_below (by (with_reducible repeat (first | apply Kd.S_alloc | apply Kd.S_drewN | apply Kd.S_drew)); exact HO_3.out) hb); have n1_ := Aside0.mk (below_step (by repeat (first | (with_reducible first | exact HB.out | apply below_alloc | apply pw_below_drewN | apply below_drew1) | exact HB.out)) hb); clear HO_3; clear HB; have HO_3 := n0_; have HB := n1_; clear n0_ n1_; (try clear hb); (try clear hb2); (try clear hk); (try clear hi); obtain ⟨Ao74, co74, eo74⟩ := Kd.S_slice HO_3.out; subst eo74) | ((with_reducible refine gate_callee (f := 55) rfl ?_); refine goesL_ (some 59) rfl rfl Try.func55 (by kernel_rfl) rfl #[.slice A0 l0.length c0, .slice Ao74 t103.length co74] rfl (by (try simp only [List.map_toArray, List.map_cons, List.map_nil]); first | done | rfl | (simp only [List.length_drop, List.length_take]; rfl)) ?_; (with_reducible refine (mooringref02_Mul.calls kj4 _ _ l0 _ _ t103 t112 t113 _ ?side1 ?side2 ?side3 ?side4 A28.out).mono ?_); (case side1 => repeat (first | exact (Kd.C_below HR0.out HB.out) | (with_reducible refine Kd.C_alloc ?_ _) | (with_reducible refine Kd.C_drewN ?_ _) | (with_reducible refine Kd.C_drew ?_))); (case side2 => exact HC0.out); (case side3 => repeat (first | exact (Kd.S_reads' HO_3.out).2.2 | (with_reducible refine Kd.C_alloc ?_ _) | (with_reducible refine Kd.C_drewN ?_ _) | (with_reducible refine Kd.C_drew ?_))); (case side4 => exact (Kd.S_reads' HO_3.out).2.1); rintro e w75 ⟨v114, rfl, ho0, hb⟩; refine ⟨_, rfl, ?_⟩; have n0_ := Aside0.mk (Kd.S_elder' (by (with_reducible repeat (first | apply Kd.S_alloc | apply Kd.S_drewN | apply Kd.S_drew)); exact HO_3.out) (Kd.S_base ho0) hb); have n1_ := Aside0.mk (Kd.S_lower (Kd.S_new' ho0 (Kd.S_lt (by (with_reducible repeat (first | apply Kd.S_alloc | apply Kd.S_drewN | apply Kd.S_drew)); exact HO_3.out))) (below_size (by repeat (first | (with_reducible first | exact HB.out | apply below_alloc | apply pw_below_drewN | apply below_drew1) | exact HB.out)))); have n2_ := Aside0.mk (below_step (by repeat (first | (with_reducible first | exact HB.out | apply below_alloc | apply pw_below_drewN | apply below_drew1) | exact HB.out)) hb); clear HO_3; clear HB; have HO_3 := n0_; have HO115 := n1_; have HB := n2_; clear n0_ n1_ n2_; (try clear hb); (try clear hb2); (try clear hk); (try clear hi); (try clear ho0)) | ((with_reducible refine gate_callee (f := 55) rfl ?_); refine goesL_ (some 65) rfl rfl Try.func55 (by kernel_rfl) rfl #[.slice Ao74 t103.length co74, .slice A0 l0.length c0] rfl (by (try simp only [List.map_toArray, List.map_cons, List.map_nil]); first | done | rfl | (simp only [List.length_drop, List.length_take]; rfl)) ?_; (with_reducible refine (mooringref02_Mul.calls kj4 _ _ t103 _ _ l0 t116 t117 _ ?side1 ?side2 ?side3 ?side4 A29.out).mono ?_); (case side1 => repeat (first | exact (Kd.S_reads' HO_3.out).2.2 | (with_reducible refine Kd.C_alloc ?_ _) | (with_reducible refine Kd.C_drewN ?_ _) | (with_reducible refine Kd.C_drew ?_))); (case side2 => exact (Kd.S_reads' HO_3.out).2.1); (case side3 => repeat (first | exact (Kd.C_below HR0.out HB.out) | (with_reducible refine Kd.C_alloc ?_ _) | (with_reducible refine Kd.C_drewN ?_ _) | (with_reducible refine Kd.C_drew ?_))); (case side4 => exact HC0.out); rintro e w76 ⟨v118, rfl, ho0, hb⟩; refine ⟨_, rfl, ?_⟩; have n0_ := Aside0.mk (Kd.S_elder' (by (with_reducible repeat (first | apply Kd.S_alloc | apply Kd.S_drewN | apply Kd.S_drew)); exact HO_3.out) (Kd.S_base ho0) hb); have n1_ := Aside0.mk (Kd.S_elder' (by (with_reducible repeat (first | apply Kd.S_alloc | apply Kd.S_drewN | apply Kd.S_drew)); exact HO115.out) (Kd.S_base ho0) hb); have n2_ := Aside0.mk (Kd.S_lower (Kd.S_new' (Kd.S_new' ho0 (Kd.S_lt (by (with_reducible repeat (first | apply Kd.S_alloc | apply Kd.S_drewN | apply Kd.S_drew)); exact HO_3.out))) (Kd.S_lt (by (with_reducible repeat (first | apply Kd.S_alloc | apply Kd.S_drewN | apply Kd.S_drew)); exact HO115.out))) (below_size (by repeat (first | (with_reducible first | exact HB.out | apply below_alloc | apply pw_below_drewN | apply below_drew1) | exact HB.out)))); have n3_ := Aside0.mk (below_step (by repeat (first | (with_reducible first | exact HB.out | apply below_alloc | apply pw_below_drewN | apply below_drew1) | exact HB.out)) hb); clear HO_3; clear HO115; clear HB; have HO_3 := n0_; have HO115 := n1_; have HO119 := n2_; have HB := n3_; clear n0_ n1_ n2_ n3_; (try clear hb); (try clear hb2); (try clear hk); (try clear hi); (try clear ho0)) | ((with_reducible refine gate_callee (f := 56) rfl ?_); refine goesL_ (some 70) rfl rfl Try.func56 (by kernel_rfl) rfl #[.int .i64 (l0.length : Int)] rfl (by (try simp only [List.map_toArray, List.map_cons, List.map_nil]); first | done | rfl | (simp only [List.length_drop, List.length_take]; rfl)) ?_; (with_reducible refine (mooringref02_Identity.calls kj4 (l0.length : Int) t120 _ A30.out).mono ?_); rintro e w77 ⟨v121, rfl, ho0, hb⟩; refine ⟨_, rfl, ?_⟩; have n0_ := Aside0.mk (Kd.S_elder' (by (with_reducible repeat (first | apply Kd.S_alloc | apply Kd.S_drewN | apply Kd.S_drew)); exact HO_3.out) (Kd.S_base ho0) hb); have n1_ := Aside0.mk (Kd.S_elder' (by (with_reducible repeat (first | apply Kd.S_alloc | apply Kd.S_drewN | apply Kd.S_drew)); exact HO115.out) (Kd.S_base ho0) hb); have n2_ := Aside0.mk (Kd.S_elder' (by (with_reducible repeat (first | apply Kd.S_alloc | apply Kd.S_drewN | apply Kd.S_drew)); exact HO119.out) (Kd.S_base ho0) hb); have n3_ := Aside0.mk (Kd.S_lower (Kd.S_new' (Kd.S_new' (Kd.S_new' ho0 (Kd.S_lt (by (with_reducible repeat (first | apply Kd.S_alloc | apply Kd.S_drewN | apply Kd.S_drew)); exact HO_3.out))) (Kd.S_lt (by (with_reducible repeat (first | apply Kd.S_alloc | apply Kd.S_drewN | apply Kd.S_drew)); exact HO115.out))) (Kd.S_lt (by (with_reducible repeat (first | apply Kd.S_alloc | apply Kd.S_drewN | apply Kd.S_drew)); exact HO119.out))) (below_size (by repeat (first | (with_reducible first | exact HB.out | apply below_alloc | apply pw_below_drewN | apply below_drew1) | exact HB.out)))); have n4_ := Aside0.mk (below_step (by repeat (first | (with_reducible first | exact HB.out | apply below_alloc | apply pw_below_drewN | apply below_drew1) | exact HB.out)) hb); clear HO_3; clear HO115; clear HO119; clear HB; have HO_3 := n0_; have HO115 := n1_; have HO119 := n2_; have HO122 := n3_; have HB := n4_; clear n0_ n1_ n2_ n3_ n4_; (try clear hb); (try clear hb2); (try clear hk); (try clear hi); (try clear ho0)))
              go_ret
              exact ⟨by first | rfl | (simp [errW_none, errW_some] <;> rfl) | (simp [*, errW_none, errW_some] <;> rfl), by repeat (first | (with_reducible first | exact HB.out | apply below_alloc | apply pw_below_drewN | apply below_drew1) | exact HB.out)⟩
  · replace c3 := Bool.eq_false_iff.mpr c3
    subst c3
    have H1 : ((mooringlaw02_awake.f).bind fun t102 => (some t102)) = some r := by rw [if_neg (show ¬ (false = true) by decide)] at H; exact H
    clear H
    have H := H1
    clear H1
    replace H := Option.bind_eq_some_iff.mp H
    obtain ⟨t102, A780, H⟩ := H
    replace H : (some t102) = some r := H
    have A78 := Aside0.mk A780
    clear A780
    obtain rfl := Option.some.inj H
    go_enter Try.func11, Try.ntmps11
    go_wp2_with (first | ((with_reducible refine gate_callee (f := 50) rfl ?_); refine goesL_ (some 11) rfl rfl Try.func50 (by kernel_rfl) rfl #[.slice A0 l0.length c0] rfl (by (try simp only [List.map_toArray, List.map_cons, List.map_nil]); first | done | rfl | (simp only [List.length_drop, List.length_take]; rfl)) ?_; (with_reducible refine (mooringlaw02_light.calls _ _ l0 false _ ?side1 ?side2 A2.out).mono ?_); (case side1 => repeat (first | exact HR0.out | (with_reducible refine Kd.C_alloc ?_ _) | (with_reducible refine Kd.C_drewN ?_ _) | (with_reducible refine Kd.C_drew ?_))); (case side2 => exact HC0.out); rintro e w' ⟨rfl, ⟨nd, rfl⟩⟩; refine ⟨_, rfl, ?_⟩) | ((with_reducible refine gate_callee (f := 51) rfl ?_); refine goesL_ (some 13) rfl rfl Try.func51 (by kernel_rfl) rfl #[] rfl (by (try simp only [List.map_toArray, List.map_cons, List.map_nil]); first | done | rfl | (simp only [List.length_drop, List.length_take]; rfl)) ?_; (with_reducible refine (mooringlaw02_awake.calls  t102 _ A78.out).mono ?_); rintro e w79 ⟨rfl, hb⟩; refine ⟨_, rfl, ?_⟩; have n0_ := Aside0.mk (below_step (by repeat (first | (with_reducible first | exact HB.out | apply below_alloc | apply pw_below_drewN | apply below_drew1) | exact HB.out)) hb); clear HB; have HB := n0_; clear n0_; (try clear hb); (try clear hb2); (try clear hk); (try clear hi)))
    go_ret
    exact ⟨by first | rfl | (simp [errW_none, errW_some] <;> rfl) | (simp [*, errW_none, errW_some] <;> rfl), by repeat (first | (with_reducible first | exact HB.out | apply below_alloc | apply pw_below_drewN | apply below_drew1) | exact HB.out)⟩

end Go.Proofs.Ytbogmlckbkogiaa.P

/- What the products of the program and of the reference come to, and whether matrices are alike. Conditions: told at each. -/
namespace Go.Proofs.Ytbogmlckbkogiaa.Red
open Go.RowKit Go.Proofs.YtbogmlckbkogiaaW.PrintWords Go.Proofs.Ytbogmlckbkogiaa.Leaf Go.Proofs.Ytbogmlckbkogiaa.Gf Go.Proofs.Ytbogmlckbkogiaa.H Go.Proofs.Ytbogmlckbkogiaa.Mx Go.Proofs.Ytbogmlckbkogiaa.P
set_option linter.unusedVariables false
set_option linter.unusedSimpArgs false
/-- The product. -/
def mulM (A C : Mat) : Mat := matF A.length (row C 0).length (mm C.length (el A) (el C))
def mulR (A C : Mat) : List (List Int) × Int := if mayB A = true ∧ mayB C = true ∧ (row A 0).length = C.length then (oM (mulM A C), 0) else ([], 1)
/-- The product on its way. -/
def stM (n m p : Nat) (A C : Mat) (i k : Nat) : Mat := matF n p fun a b => if a < i then mm m (el A) (el C) a b else if a = i then sm k (fun l => mul (el A a l) (el C l b)) else 0#8
theorem stM_next (n m p : Nat) (A C : Mat) (i : Nat) : stM n m p A C i m = stM n m p A C (i + 1) 0 := by
  refine mat_ext (matF_reg n p _) (matF_reg n p _) fun a b ha hb => ?_
  unfold stM
  rw [el_matF _ ha hb, el_matF _ ha hb]
  by_cases e : a < i
  · rw [if_pos e, if_pos (by omega)]
  · rw [if_neg e]
    by_cases e2 : a = i
    · rw [if_pos e2, if_pos (by omega)]; rfl
    · rw [if_neg e2, if_neg (by omega)]
      by_cases e3 : a = i + 1
      · rw [if_pos e3]; rfl
      · rw [if_neg e3]
theorem stM_step {n m p : Nat} {A C : Mat} (hC : Reg C m p) {i k : Nat} (hi : i < n) (hk : k < m) :
    (stM n m p A C i k).set i (am (row (stM n m p A C i k) i) (row C k) (el A i k) (row (stM n m p A C i k) i).length) = stM n m p A C i (k + 1) := by
  have hr : Reg (stM n m p A C i k) n p := matF_reg n p _
  refine mat_ext (hr.set hi (by rw [am_length]; exact hr.2 i hi)) (matF_reg n p _) fun a b ha hb => ?_
  have e0 : el (stM n m p A C i (k + 1)) a b = if a < i then mm m (el A) (el C) a b else if a = i then sm (k + 1) (fun l => mul (el A a l) (el C l b)) else 0#8 := by unfold stM; rw [el_matF _ ha hb]
  have e1 : el (stM n m p A C i k) a b = if a < i then mm m (el A) (el C) a b else if a = i then sm k (fun l => mul (el A a l) (el C l b)) else 0#8 := by unfold stM; rw [el_matF _ ha hb]
  rw [e0]
  show at0 (row _ a) b = _
  rw [row_set _ _ _ _ (by rw [hr.1]; exact hi)]
  by_cases e : a = i
  · subst e
    rw [if_pos rfl, am_at _ _ _ _ (by rw [hr.2 a ha]; exact hb), if_neg (by omega), if_pos rfl]
    rw [if_neg (by omega), if_pos rfl] at e1
    simp only [sm]
    rw [← e1, mul_comm (el A a k)]
    rfl
  · rw [if_neg e]
    show el (stM n m p A C i k) a b = _
    rw [e1]
    by_cases e2 : a < i
    · rw [if_pos e2, if_pos e2]
    · rw [if_neg e2, if_neg e2, if_neg e, if_neg e]
theorem mul_l1 {n m p : Nat} {A C : Mat} (hA : Reg A n m) (hC : Reg C m p) (hn : n ≤ 255) (hm : m ≤ 255) (hp : p ≤ 255) (r : List (List Int) × Int) (i : Nat) (hi : i < n)
    (hnext : Ev (fun k => matrix_Mul.l0 k (oM C) (oM (stM n m p A C (i + 1) 0)) (oM A) (n : Int) ((i + 1 : Nat) : Int)) r) (d : Nat) : ∀ k : Nat, k + d = m →
    Ev (fun f => matrix_Mul.l1 f (oM C) (oM (stM n m p A C i k)) (i : Int) (oM A) (n : Int) (i : Int) (ofL (row A i)) (m : Int) (k : Int)) r := by
  induction d with
  | zero =>
    intro k hk
    obtain rfl : k = m := by omega
    refine Ev.step (f := fun f => matrix_Mul.l0 f (oM C) (oM (stM n k p A C (i + 1) 0)) (oM A) (n : Int) ((i + 1 : Nat) : Int)) (fun f => ?_) hnext
    simp only [matrix_Mul.l1]
    rw [if_neg (by omega), stM_next, w64 _ (by omega) (by omega)]
    rfl
  | succ d ih =>
    intro k hk
    have hr : Reg (stM n m p A C i k) n p := matF_reg n p _
    refine Ev.step (f := fun f => (gf_AddMul.f f (ofL (row (stM n m p A C i k) i)) (ofL (row C k)) (ofB (el A i k))).bind fun bt112 => matrix_Mul.l1 f (oM C) ((oM (stM n m p A C i k)).set i bt112.1) (i : Int) (oM A) (n : Int) (i : Int) (ofL (row A i)) (m : Int) ((k + 1 : Nat) : Int)) (fun f => ?_) ?_
    · simp only [matrix_Mul.l1, ofL_length, oM_length, rd_oM, rd_ofL, hA.2 i hi, hr.1, hC.1, Int.toNat_natCast]
      rw [if_pos (by omega), if_pos (by omega), if_pos (by omega), if_pos (by omega), if_pos (by omega), if_pos (by omega), w64 _ (by omega) (by omega)]
      rfl
    · refine Ev.bind (gfAddMul _ _ _ (by rw [hr.2 i hi]; omega)) ?_
      unfold addMulB
      rw [if_pos (by rw [hr.2 i hi, hC.2 k (by omega)])]
      simp only []
      rw [oM_set, stM_step hC hi (by omega)]
      exact ih (k + 1) (by omega)
theorem mul_l0 {n m p : Nat} {A C : Mat} (hA : Reg A n m) (hC : Reg C m p) (hn : n ≤ 255) (hm : m ≤ 255) (hp : p ≤ 255) (d : Nat) : ∀ i : Nat, i + d = n →
    Ev (fun k => matrix_Mul.l0 k (oM C) (oM (stM n m p A C i 0)) (oM A) (n : Int) (i : Int)) (oM (stM n m p A C n 0), 0) := by
  induction d with
  | zero =>
    intro i hi
    obtain rfl : i = n := by omega
    refine Ev.step (f := fun _ => some (oM (stM i m p A C i 0), 0)) (fun k => ?_) (Ev.now _)
    simp only [matrix_Mul.l0]
    rw [if_neg (by omega)]
  | succ d ih =>
    intro i hi
    refine Ev.step (f := fun f => matrix_Mul.l1 f (oM C) (oM (stM n m p A C i 0)) (i : Int) (oM A) (n : Int) (i : Int) (ofL (row A i)) (m : Int) ((0 : Nat) : Int)) (fun f => ?_) (mul_l1 hA hC hn hm hp _ i (by omega) (ih (i + 1) (by omega)) m 0 (by omega))
    simp only [matrix_Mul.l0, oM_length, rd_oM, ofL_length, hA.1, hA.2 i (by omega)]
    rw [if_pos (by omega), if_pos (by omega), if_pos (by omega)]
    rfl
theorem stM_all {n m p : Nat} {A C : Mat} (hA : Reg A n m) (hC : Reg C m p) (hm : 0 < m) : stM n m p A C n 0 = mulM A C := by
  unfold mulM
  rw [hA.1, hC.1, hC.2 0 hm]
  refine mat_ext (matF_reg n p _) (matF_reg n p _) fun a b ha hb => ?_
  unfold stM
  rw [el_matF _ ha hb, el_matF _ ha hb, if_pos ha]
theorem mayB_pos {A : Mat} (h : mayB A = true) : 0 < A.length := ((mayB_iff A).1 h).1
theorem evMul (A C : Mat) (hs : A.length ≤ 9223372036854775807) (hs2 : C.length ≤ 9223372036854775807) : Ev (fun k => matrix_Mul.f k (oM A) (oM C)) (mulR A C) := by
  have j1 : Ev (fun k => matrix_Mul.j0 k (oM A) (oM C) true) ([], 1) := Ev.step (f := fun _ => some ([], 1)) (fun k => by simp only [matrix_Mul.j0, if_true]) (Ev.now _)
  unfold matrix_Mul.f mulR
  refine Ev.bind (evCheck A hs) ?_
  by_cases h1 : mayB A = true
  · simp only [h1, if_true]
    refine Ev.bind (evCheck C hs2) ?_
    by_cases h2 : mayB C = true
    · simp only [h2, if_true, true_and, oM_length, rd_oM0, ofL_length, show ((0 : Int) < (A.length : Int)) = True from eq_true (by have := mayB_pos h1; omega)]
      by_cases h3 : (row A 0).length = C.length
      · simp only [show (((row A 0).length : Int) != (C.length : Int)) = false by simp [h3]]
        rw [if_pos h3]
        obtain ⟨hA, a1, a2, a3, a4⟩ := mayB_reg h1
        obtain ⟨hC, b1, b2, b3, b4⟩ := mayB_reg h2
        refine Ev.step (f := fun k => (matrix_zeros.f k (A.length : Int) ((row C 0).length : Int)).bind fun t105 => matrix_Mul.l0 k (oM C) t105 (oM A) (A.length : Int) 0) (fun k => ?_) ?_
        · simp only [matrix_Mul.j0, Bool.false_eq_true, if_false, oM_length, rd_oM0, ofL_length]
          rw [if_pos (by omega)]
        · refine Ev.bind (evZeros _ _ (by omega) (by omega)) ?_
          have hz : zeroM A.length (row C 0).length = stM A.length C.length (row C 0).length A C 0 0 := by
            refine mat_ext (zeroM_reg _ _) (matF_reg _ _ _) fun a b ha hb => ?_
            unfold stM
            rw [el_zeroM ha hb, el_matF _ ha hb, if_neg (by omega)]
            by_cases e : a = 0
            · rw [if_pos e]; rfl
            · rw [if_neg e]
          rw [h3] at hA
          rw [hz, ← stM_all hA hC b1]
          exact mul_l0 hA hC a2 b2 b4 A.length 0 (by omega)
      · simp only [show (((row A 0).length : Int) != (C.length : Int)) = true by simp; omega]
        rw [if_neg h3]
        exact j1
    · simp only [h2, show ((1 : Int) = 0) = False from eq_false (by decide), if_false, false_and, and_false]
      exact j1
  · simp only [h1, show ((1 : Int) = 0) = False from eq_false (by decide), if_false, false_and]
    exact j1
/-! ### The reference's product -/
theorem refMul_l2 {n m p : Nat} {A C : Mat} (hA : Reg A n m) (hC : Reg C m p) (hm : m ≤ 255) (hp : p ≤ 255) (r : List (List Int) × Int) (X : List (List Int)) (Y : List Int) (i j : Nat) (hi : i < n) (hj : j < p) (hY : Y.length ≤ 255)
    (hnext : Ev (fun k => mooringref02_Mul.l1 k (oM A) (oM C) X (i : Int) (Y ++ [ofB (mm m (el A) (el C) i j)]) ((j + 1 : Nat) : Int)) r) (d : Nat) : ∀ k : Nat, k + d = m →
    Ev (fun f => mooringref02_Mul.l2 f (oM A) (oM C) X (i : Int) Y (j : Int) (ofB (sm k (fun l => mul (el A i l) (el C l j)))) (k : Int)) r := by
  induction d with
  | zero =>
    intro k hk
    obtain rfl : k = m := by omega
    refine Ev.step (f := fun f => mooringref02_Mul.l1 f (oM A) (oM C) X (i : Int) (Y ++ [ofB (mm k (el A) (el C) i j)]) ((j + 1 : Nat) : Int)) (fun f => ?_) hnext
    simp only [mooringref02_Mul.l2, oM_length, hC.1]
    rw [if_neg (by omega), if_pos (by omega), w64 _ (by omega) (by omega)]
    rfl
  | succ d ih =>
    intro k hk
    refine Ev.step (f := fun f => (mooringref01_Mul.f f (ofB (el A i k)) (ofB (el C k j))).bind fun t118 => mooringref02_Mul.l2 f (oM A) (oM C) X (i : Int) Y (j : Int) (Go.bits .xor .u8 (ofB (sm k (fun l => mul (el A i l) (el C l j)))) t118) ((k + 1 : Nat) : Int)) (fun f => ?_) ?_
    · simp only [mooringref02_Mul.l2, oM_length, hC.1, hA.1, rd_oM, rd_ofL, ofL_length, hA.2 i hi, hC.2 k (by omega)]
      rw [if_pos (by omega), if_pos (by omega), if_pos (by omega), if_pos (by omega), if_pos (by omega), if_pos (by omega), if_pos (by omega), w64 _ (by omega) (by omega)]
      rfl
    · refine Ev.bind (refMul _ _) ?_
      rw [xor_ofB]
      exact ih (k + 1) (by omega)
theorem refMul_l1 {n m p : Nat} {A C : Mat} (hA : Reg A n m) (hC : Reg C m p) (hn : n ≤ 255) (hm0 : 0 < m) (hm : m ≤ 255) (hp : p ≤ 255) (r : List (List Int) × Int) (i : Nat) (hi : i < n)
    (hnext : Ev (fun k => mooringref02_Mul.l0 k (oM A) (oM C) (oM (matF (i + 1) p (mm m (el A) (el C)))) ((i + 1 : Nat) : Int)) r) (d : Nat) : ∀ j : Nat, j + d = p →
    Ev (fun f => mooringref02_Mul.l1 f (oM A) (oM C) (oM (matF i p (mm m (el A) (el C)))) (i : Int) (ofL ((List.range j).map (mm m (el A) (el C) i))) (j : Int)) r := by
  induction d with
  | zero =>
    intro j hj
    obtain rfl : j = p := by omega
    refine Ev.step (f := fun f => mooringref02_Mul.l0 f (oM A) (oM C) (oM (matF (i + 1) j (mm m (el A) (el C)))) ((i + 1 : Nat) : Int)) (fun f => ?_) hnext
    simp only [mooringref02_Mul.l1, oM_length, hC.1, rd_oM0, ofL_length, hC.2 0 hm0, (matF_reg i j (mm m (el A) (el C))).1]
    rw [if_pos (by omega), if_neg (by omega), if_pos (by omega), oM_one, oM_append, w64 _ (by omega) (by omega)]
    have e2 : matF i j (mm m (el A) (el C)) ++ [(List.range j).map (mm m (el A) (el C) i)] = matF (i + 1) j (mm m (el A) (el C)) := by unfold matF; rw [List.range_succ, List.map_append]; rfl
    rw [e2]
    rfl
  | succ d ih =>
    intro j hj
    refine Ev.step (f := fun f => mooringref02_Mul.l2 f (oM A) (oM C) (oM (matF i p (mm m (el A) (el C)))) (i : Int) (ofL ((List.range j).map (mm m (el A) (el C) i))) (j : Int) (ofB (sm 0 (fun l => mul (el A i l) (el C l j)))) ((0 : Nat) : Int)) (fun f => ?_) ?_
    · simp only [mooringref02_Mul.l1, oM_length, hC.1, rd_oM0, ofL_length, hC.2 0 hm0]
      rw [if_pos (by omega), if_pos (by omega)]
      rfl
    · refine refMul_l2 hA hC hm hp r _ _ i j hi (by omega) (by rw [ofL_length, List.length_map, List.length_range]; omega) ?_ m 0 (by omega)
      have e : ofL ((List.range j).map (mm m (el A) (el C) i)) ++ [ofB (mm m (el A) (el C) i j)] = ofL ((List.range (j + 1)).map (mm m (el A) (el C) i)) := by
        rw [List.range_succ, List.map_append]; unfold ofL; rw [List.map_append]; rfl
      rw [e]
      exact ih (j + 1) (by omega)
theorem refMul_l0' {n m p : Nat} {A C : Mat} (hA : Reg A n m) (hC : Reg C m p) (hn : n ≤ 255) (hm0 : 0 < m) (hm : m ≤ 255) (hp : p ≤ 255) (d : Nat) : ∀ i : Nat, i + d = n →
    Ev (fun k => mooringref02_Mul.l0 k (oM A) (oM C) (oM (matF i p (mm m (el A) (el C)))) (i : Int)) (oM (matF n p (mm m (el A) (el C))), 0) := by
  induction d with
  | zero =>
    intro i hi
    obtain rfl : i = n := by omega
    refine Ev.step (f := fun _ => some (oM (matF i p (mm m (el A) (el C))), 0)) (fun k => ?_) (Ev.now _)
    simp only [mooringref02_Mul.l0, oM_length, hA.1]
    rw [if_neg (by omega)]
  | succ d ih =>
    intro i hi
    refine Ev.step (f := fun f => mooringref02_Mul.l1 f (oM A) (oM C) (oM (matF i p (mm m (el A) (el C)))) (i : Int) (ofL ((List.range 0).map (mm m (el A) (el C) i))) ((0 : Nat) : Int)) (fun f => ?_) (refMul_l1 hA hC hn hm0 hm hp _ i (by omega) (ih (i + 1) (by omega)) p 0 (by omega))
    simp only [mooringref02_Mul.l0, oM_length, hA.1]
    rw [if_pos (by omega)]
    rfl
theorem evRefMul (A C : Mat) (hs : A.length ≤ 9223372036854775807) (hs2 : C.length ≤ 9223372036854775807) : Ev (fun k => mooringref02_Mul.f k (oM A) (oM C)) (mulR A C) := by
  have j1 : Ev (fun k => mooringref02_Mul.j0 k (oM A) (oM C) true) ([], 1) := Ev.step (f := fun _ => some ([], 1)) (fun k => by simp only [mooringref02_Mul.j0, if_true]) (Ev.now _)
  unfold mooringref02_Mul.f mulR
  refine Ev.bind (evMay A hs) ?_
  by_cases h1 : mayB A = true
  · simp only [h1, if_true]
    refine Ev.bind (evMay C hs2) ?_
    by_cases h2 : mayB C = true
    · simp only [h2, if_true, true_and, oM_length, rd_oM0, ofL_length, show ((0 : Int) < (A.length : Int)) = True from eq_true (by have := mayB_pos h1; omega)]
      by_cases h3 : (row A 0).length = C.length
      · simp only [show (((row A 0).length : Int) != (C.length : Int)) = false by simp [h3]]
        rw [if_pos h3]
        obtain ⟨hA, a1, a2, a3, a4⟩ := mayB_reg h1
        obtain ⟨hC, b1, b2, b3, b4⟩ := mayB_reg h2
        refine Ev.step (f := fun k => mooringref02_Mul.l0 k (oM A) (oM C) (oM (matF 0 (row C 0).length (mm C.length (el A) (el C)))) ((0 : Nat) : Int)) (fun k => ?_) ?_
        · simp only [mooringref02_Mul.j0, Bool.false_eq_true, if_false]
          rfl
        · rw [h3] at hA
          exact refMul_l0' hA hC a2 b1 b2 b4 A.length 0 (by omega)
      · simp only [show (((row A 0).length : Int) != (C.length : Int)) = true by simp; omega]
        rw [if_neg h3]
        exact j1
    · simp only [h2, Bool.false_eq_true, if_false, false_and, and_false]
      exact j1
  · simp only [h1, Bool.false_eq_true, if_false, false_and]
    exact j1
/-! ### Are matrices alike? -/
theorem str_eq (L M : List B) : (strOfNums (ofL L)).toList = (strOfNums (ofL M)).toList ↔ L = M := by
  refine ⟨fun h => ?_, fun h => by rw [h]⟩
  rw [ByteArray.toList_eq, ByteArray.toList_eq, strOfNums_data, strOfNums_data] at h
  have h2 := congrArg (List.map fun c : UInt8 => BitVec.ofNat 8 c.toNat) h
  have hid : ∀ N : List B, ((ofL N).map fun n => UInt8.ofNat n.toNat).map (fun c : UInt8 => BitVec.ofNat 8 c.toNat) = N := by
    intro N
    unfold ofL
    rw [List.map_map, List.map_map]
    refine (List.map_congr_left fun x _ => ?_).trans (List.map_id' N)
    have hx := x.isLt
    simp only [Function.comp, ofB, Int.toNat_natCast]
    apply BitVec.eq_of_toNat_eq
    simp
  rw [hid, hid] at h2
  exact h2
theorem same_l0 (A C : Mat) (hl : A.length = C.length) (hs : A.length ≤ 9223372036854775807) (d : Nat) : ∀ i : Nat, i + d = A.length → (∀ j, j < i → row A j = row C j) → Ev (fun k => mooringref02_Same.l0 k (oM A) (oM C) (i : Int)) (decide (A = C)) := by
  induction d with
  | zero =>
    intro i hi h
    have e : A = C := by
      refine List.ext_getElem hl fun j h1 h2 => ?_
      have h3 := h j (by omega)
      unfold row at h3
      rw [List.getD_eq_getElem?_getD, List.getElem?_eq_getElem h1, List.getD_eq_getElem?_getD, List.getElem?_eq_getElem h2] at h3
      exact h3
    rw [decide_eq_true e]
    refine Ev.step (f := fun _ => some true) (fun k => ?_) (Ev.now _)
    simp only [mooringref02_Same.l0, oM_length]
    rw [if_neg (by omega)]
  | succ d ih =>
    intro i hi h
    by_cases he : row A i = row C i
    · refine Ev.step (f := fun k => mooringref02_Same.l0 k (oM A) (oM C) ((i + 1 : Nat) : Int)) (fun k => ?_) (ih (i + 1) (by omega) (fun j hj => ?_))
      · simp only [mooringref02_Same.l0, oM_length, rd_oM]
        rw [if_pos (by omega), if_pos (by omega), if_pos (by omega), if_pos ((str_eq _ _).2 he), w64 _ (by omega) (by omega)]
        rfl
      · by_cases e : j = i
        · rw [e]; exact he
        · exact h j (by omega)
    · have e : decide (A = C) = false := decide_eq_false (fun e => he (by rw [e]))
      rw [e]
      refine Ev.step (f := fun _ => some false) (fun k => ?_) (Ev.now _)
      simp only [mooringref02_Same.l0, oM_length, rd_oM]
      rw [if_pos (by omega), if_pos (by omega), if_pos (by omega), if_neg (fun h => he ((str_eq _ _).1 h))]
theorem evSame (A C : Mat) (hs : A.length ≤ 9223372036854775807) : Ev (fun k => mooringref02_Same.f k (oM A) (oM C)) (decide (A = C)) := by
  unfold mooringref02_Same.f
  simp only [oM_length]
  by_cases h : A.length = C.length
  · simp only [show ((A.length : Int) = (C.length : Int)) = True from eq_true (by omega), if_true]
    exact same_l0 A C h hs A.length 0 (by omega) (fun j hj => by omega)
  · simp only [show ((A.length : Int) = (C.length : Int)) = False from eq_false (by omega), if_false]
    rw [decide_eq_false (fun e => h (by rw [e]))]
    exact Ev.now _
end Go.Proofs.Ytbogmlckbkogiaa.Red

/- Any k rows of a code's matrix: no sum of multiples of them is nought but that of nought. Conditions: k + m at most 255. -/
namespace Go.Proofs.Ytbogmlckbkogiaa.Mx
open Go.Proofs.Ytbogmlckbkogiaa.Gf
set_option linter.unusedVariables false
set_option linter.unusedSimpArgs false
def sq {α : Type} : List α → (α → B) → B
  | [], _ => 0#8
  | x :: l, f => f x ^^^ sq l f
theorem sl_sq (l : List B) (f : B → B) : sl l f = sq l f := by
  induction l with
  | nil => rfl
  | cons x l ih => simp only [sl, sq]; rw [ih]
theorem sq_congr {α : Type} {l : List α} {f g : α → B} (h : ∀ x ∈ l, f x = g x) : sq l f = sq l g := by
  induction l with
  | nil => rfl
  | cons x l ih => simp only [sq]; rw [h x (by simp), ih (fun y hy => h y (by simp [hy]))]
/-! ### Counting -/
theorem nodup_len {α : Type} [DecidableEq α] : ∀ (l l' : List α), l.Nodup → (∀ x ∈ l, x ∈ l') → l.length ≤ l'.length := by
  intro l
  induction l with
  | nil => intro l' _ _; exact Nat.zero_le _
  | cons a l ih =>
    intro l' hn hs
    rw [List.nodup_cons] at hn
    have h1 := hs a (by simp)
    have h2 := ih (l'.erase a) hn.2 (fun x hx => (List.mem_erase_of_ne (fun e => hn.1 (by rw [← e]; exact hx))).2 (hs x (by simp [hx])))
    rw [List.length_erase_of_mem h1] at h2
    have h3 := List.length_pos_of_mem h1
    rw [List.length_cons]
    omega
theorem filter_split {α : Type} (p : α → Bool) (l : List α) : (l.filter p).length + (l.filter fun x => !p x).length = l.length := by
  induction l with
  | nil => rfl
  | cons a l ih =>
    simp only [List.filter_cons]
    cases p a <;> simp <;> omega
theorem sq_filter {α : Type} (p : α → Bool) (f : α → B) (l : List α) (h : ∀ x ∈ l, p x = false → f x = 0#8) : sq (l.filter p) f = sq l f := by
  induction l with
  | nil => rfl
  | cons a l ih =>
    simp only [List.filter_cons]
    cases hp : p a with
    | true => simp only [if_true, sq]; rw [ih (fun x hx => h x (by simp [hx]))]
    | false => simp only [Bool.false_eq_true, if_false, sq]; rw [ih (fun x hx => h x (by simp [hx])), h a (by simp) hp, BitVec.zero_xor]
theorem sq_map {α β : Type} (g : α → β) (f : β → B) (l : List α) : sq (l.map g) f = sq l (fun x => f (g x)) := by
  induction l with
  | nil => rfl
  | cons a l ih => simp only [List.map_cons, sq]; rw [ih]
theorem sq_append {α : Type} (f : α → B) (l l' : List α) : sq (l ++ l') f = sq l f ^^^ sq l' f := by
  induction l with
  | nil => simp [sq]
  | cons a l ih => simp only [List.cons_append, sq]; rw [ih, BitVec.xor_assoc]
theorem sm_range (n : Nat) (f : Nat → B) : sm n f = sq (List.range n) f := by
  induction n with
  | zero => rfl
  | succ n ih => rw [List.range_succ, sq_append]; simp only [sm, sq]; rw [ih, BitVec.xor_zero]
/-- An element of the code's matrix. -/
def cau (k m : Nat) : Fm := fun v j => if v < k then I v j else inv (BitVec.ofNat 8 (v - k) ^^^ BitVec.ofNat 8 (m + j))
theorem ofNat8_inj {a b : Nat} (ha : a < 256) (hb : b < 256) (h : BitVec.ofNat 8 a = BitVec.ofNat 8 b) : a = b := by
  have := congrArg BitVec.toNat h
  rw [BitVec.toNat_ofNat, BitVec.toNat_ofNat] at this
  omega
theorem nodup_map {α β : Type} (g : α → β) (l : List α) (h : l.Nodup) (hi : ∀ x ∈ l, ∀ y ∈ l, g x = g y → x = y) : (l.map g).Nodup := by
  induction l with
  | nil => exact List.nodup_nil
  | cons a l ih =>
    rw [List.nodup_cons] at h
    rw [List.map_cons, List.nodup_cons]
    refine ⟨fun hm => ?_, ih h.2 (fun x hx y hy => hi x (by simp [hx]) y (by simp [hy]))⟩
    obtain ⟨b, hb, e⟩ := List.mem_map.1 hm
    have := hi b (by simp [hb]) a (by simp) e
    exact h.1 (by rw [← this]; exact hb)
theorem getD_inj {l : List Nat} (h : l.Nodup) {i j : Nat} (hi : i < l.length) (hj : j < l.length) (e : l.getD i 0 = l.getD j 0) : i = j := by
  rw [List.getD_eq_getElem?_getD, List.getElem?_eq_getElem hi, List.getD_eq_getElem?_getD, List.getElem?_eq_getElem hj] at e
  exact (List.getElem_inj h).1 e
theorem getD_mem {l : List Nat} {i : Nat} (hi : i < l.length) : l.getD i 0 ∈ l := by
  rw [List.getD_eq_getElem?_getD, List.getElem?_eq_getElem hi]
  exact List.getElem_mem hi
/-- Any k rows of the code's matrix: no sum of multiples of them is nought but that of nought. -/
theorem cauchy_regular {k m : Nat} (hk : k + m ≤ 255) (ls : List Nat) (hl : ls.length = k) (hnd : ls.Nodup) (hb : ∀ v ∈ ls, v < k + m) (y : Nat → B) (h0 : ∀ j, j < k → sm k (fun i => mul (y i) (cau k m (ls.getD i 0) j)) = 0#8) : ∀ i, i < k → y i = 0#8 := by
  have hlt : ∀ i, i < k → ls.getD i 0 < k + m := fun i hi => hb _ (getD_mem (by rw [hl]; exact hi))
  -- the rows behind the first k
  have hbig : ∀ i, i < k → k ≤ ls.getD i 0 → y i = 0#8 := by
    let Pi : List Nat := (List.range k).filter fun i => decide (k ≤ ls.getD i 0)
    let Ji : List Nat := (List.range k).filter fun j => !decide (j ∈ ls)
    have hPi : ∀ i, i ∈ Pi ↔ i < k ∧ k ≤ ls.getD i 0 := fun i => by simp only [Pi, List.mem_filter, List.mem_range, decide_eq_true_eq]
    have hJi : ∀ j, j ∈ Ji ↔ j < k ∧ ¬ j ∈ ls := fun j => by simp only [Ji, List.mem_filter, List.mem_range, Bool.not_eq_true', decide_eq_false_iff_not]
    let gx : Nat → B := fun i => BitVec.ofNat 8 (ls.getD i 0 - k)
    let gy : Nat → B := fun j => BitVec.ofNat 8 (m + j)
    let c : B → B := fun x => match (List.range k).find? (fun i => ls.getD i 0 == k + x.toNat) with | some i => y i | none => 0#8
    have hc : ∀ i, i ∈ Pi → c (gx i) = y i := by
      intro i hi
      obtain ⟨h1, h2⟩ := (hPi i).1 hi
      have h3 := hlt i h1
      have h4 : (gx i).toNat = ls.getD i 0 - k := by simp only [gx, BitVec.toNat_ofNat]; omega
      have h5 : (List.range k).find? (fun i' => ls.getD i' 0 == k + (gx i).toNat) = some i := by
        rw [List.find?_range_eq_some]
        refine ⟨by rw [h4, beq_iff_eq]; omega, List.mem_range.2 h1, fun j hj => ?_⟩
        rw [h4, Bool.not_eq_true', beq_eq_false_iff_ne]
        intro e
        have := getD_inj hnd (i := j) (j := i) (by omega) (by omega) (by omega)
        omega
      show (match (List.range k).find? (fun i' => ls.getD i' 0 == k + (gx i).toNat) with | some i => y i | none => 0#8) = y i
      rw [h5]
    have hlen : (Pi.map gx).length ≤ (Ji.map gy).length := by
      rw [List.length_map, List.length_map]
      have s1 := filter_split (fun i => decide (k ≤ ls.getD i 0)) (List.range k)
      have s2 := filter_split (fun j => !decide (j ∈ ls)) (List.range k)
      rw [List.length_range] at s1 s2
      have s3 : ((List.range k).filter fun j => !(!decide (j ∈ ls))).length ≤ (((List.range k).filter fun i => !decide (k ≤ ls.getD i 0)).map fun i => ls.getD i 0).length := by
        refine nodup_len _ _ (List.Pairwise.filter _ List.nodup_range) (fun j hj => ?_)
        simp only [List.mem_filter, List.mem_range, Bool.not_not, decide_eq_true_eq] at hj
        obtain ⟨i, hi, e⟩ := List.mem_iff_getElem.1 hj.2
        have e2 : ls.getD i 0 = j := by rw [List.getD_eq_getElem?_getD, List.getElem?_eq_getElem hi]; exact e
        refine List.mem_map.2 ⟨i, ?_, e2⟩
        simp only [List.mem_filter, List.mem_range, Bool.not_eq_true', decide_eq_false_iff_not]
        exact ⟨by omega, by rw [e2]; omega⟩
      rw [List.length_map] at s3
      show ((List.range k).filter fun i => decide (k ≤ ls.getD i 0)).length ≤ ((List.range k).filter fun j => !decide (j ∈ ls)).length
      omega
    have key := cauchy_null (Pi.map gx) (Ji.map gy) ?_ ?_ ?_ hlen c ?_
    · intro i hi h1
      have hm : i ∈ Pi := (hPi i).2 ⟨hi, h1⟩
      rw [← hc i hm]
      exact key _ (List.mem_map.2 ⟨i, hm, rfl⟩)
    · refine nodup_map gx Pi (List.Pairwise.filter _ List.nodup_range) (fun i hi j hj e => ?_)
      obtain ⟨h1, h2⟩ := (hPi i).1 hi
      obtain ⟨h3, h4⟩ := (hPi j).1 hj
      have h5 := hlt i h1
      have h6 := hlt j h3
      have := ofNat8_inj (by omega) (by omega) e
      exact getD_inj hnd (by omega) (by omega) (by omega)
    · refine nodup_map gy Ji (List.Pairwise.filter _ List.nodup_range) (fun i hi j hj e => ?_)
      obtain ⟨h1, h2⟩ := (hJi i).1 hi
      obtain ⟨h3, h4⟩ := (hJi j).1 hj
      have := ofNat8_inj (by omega) (by omega) e
      omega
    · intro x hx z hz e
      obtain ⟨i, hi, rfl⟩ := List.mem_map.1 hx
      obtain ⟨j, hj, rfl⟩ := List.mem_map.1 hz
      obtain ⟨h1, h2⟩ := (hPi i).1 hi
      obtain ⟨h3, h4⟩ := (hJi j).1 hj
      have h5 := hlt i h1
      have := ofNat8_inj (by omega) (by omega) e
      omega
    · intro z hz
      obtain ⟨j, hj, rfl⟩ := List.mem_map.1 hz
      obtain ⟨h3, h4⟩ := (hJi j).1 hj
      rw [← h0 j h3, sm_range, sl_sq, sq_map]
      have e1 : sq Pi (fun i => mul (c (gx i)) (inv (gx i ^^^ gy j))) = sq Pi (fun i => mul (y i) (cau k m (ls.getD i 0) j)) := by
        refine sq_congr (fun i hi => ?_)
        rw [hc i hi]
        unfold cau
        rw [if_neg (by have := ((hPi i).1 hi).2; omega)]
      rw [e1]
      refine sq_filter _ _ _ (fun i hi hp => ?_)
      have h5 : ¬ k ≤ ls.getD i 0 := by simpa using hp
      unfold cau
      rw [if_pos (by omega)]
      unfold I
      rw [if_neg (fun e => h4 (by rw [← e]; exact getD_mem (by rw [hl]; exact List.mem_range.1 hi))), mul_zero]
  intro i hi
  by_cases h1 : k ≤ ls.getD i 0
  · exact hbig i hi h1
  · have h2 := h0 (ls.getD i 0) (by omega)
    rw [sm_single hi (fun j hj hne => ?_)] at h2
    · unfold cau I at h2
      rw [if_pos (by omega), if_pos rfl, mul_one] at h2
      exact h2
    · by_cases h3 : k ≤ ls.getD j 0
      · rw [hbig j hj h3, zero_mul]
      · unfold cau I
        rw [if_pos (by omega), if_neg (fun e => hne (getD_inj hnd (by omega) (by omega) e)), mul_zero]
end Go.Proofs.Ytbogmlckbkogiaa.Mx

-- Printed by a wrapper (wip/tools/myprint.py) of the kit's print, with hand-written contracts as given leaves.
namespace Go.Proofs.Ytbogmlckbkogiaa.P
open Go.Proofs.Ytbogmlckbkogiaa.Leaf
open Go.RowKit Go.Proofs.YtbogmlckbkogiaaW.PrintWords Go.Proofs.YtbogmlckbkogiaaW.PrintLast Go.Proofs.YtbogmlckbkogiaaW.PrintMore
attribute [local go_sem] max2_int min2_int max_two min_two max_three min_three max_four min_four   -- for this text's walks alone
set_option linter.unusedVariables false
set_option linter.unusedSimpArgs false

/-! ### matrix_Cauchy: function 71 -/
mutual
def matrix_Cauchy.j0 : Nat → Int → Int → Bool → Option ((List (List Int)) × Int)
  | 0, _, _, _ => none
  | k + 1, x0, x1, x26 => if x26 = true then (some (([] : List (List Int)), 1)) else ((matrix_Identity.f k x0).bind fun bt101 => (matrix_Cauchy.l0 k x0 x1 bt101.1 x1 0))
def matrix_Cauchy.l0 : Nat → Int → Int → List (List Int) → Int → Int → Option ((List (List Int)) × Int)
  | 0, _, _, _, _, _ => none
  | k + 1, x0, x1, x6, x32, x33 => if x33 < x32 then (if 0 ≤ x0 then (if (x0 : Int).toNat ≤ 281474976710656 then (matrix_Cauchy.l1 k x0 x1 x6 x33 (List.replicate (x0 : Int).toNat 0) x32 x33 x0 0) else (none)) else (none)) else (some (x6, 0))
def matrix_Cauchy.l1 : Nat → Int → Int → List (List Int) → Int → List Int → Int → Int → Int → Int → Option ((List (List Int)) × Int)
  | 0, _, _, _, _, _, _, _, _, _ => none
  | k + 1, x0, x1, x6, x8, x9, x32, x33, x38, x39 => if x39 < x38 then ((gf_Inv.f (Go.bits .xor .u8 ((x8) % 256) ((wrap64 (x1 + x39)) % 256))).bind fun bt108 => (if 0 ≤ x39 then (if x39 < (x9.length : Int) then (matrix_Cauchy.l1 k x0 x1 x6 x8 (x9.set (x39 : Int).toNat bt108.1) x32 x33 x38 (wrap64 (x39 + 1))) else (none)) else (none))) else (if x6.length < 5864062014805 then (matrix_Cauchy.l0 k x0 x1 (x6 ++ [x9]) x32 (wrap64 (x33 + 1))) else (none))
end
def matrix_Cauchy.f (k : Nat) (a0 : Int) (a1 : Int) : Option ((List (List Int)) × Int) := if a0 < 1 then (matrix_Cauchy.j0 k a0 a1 true) else (if a1 < 1 then (matrix_Cauchy.j0 k a0 a1 true) else (if a0 > 255 then (matrix_Cauchy.j0 k a0 a1 true) else (matrix_Cauchy.j0 k a0 a1 (decide (a1 > (wrap64 (255 - a0)))))))
theorem matrix_Cauchy.mono_l : ∀ k, (∀ y0 y1 y2, LeO (matrix_Cauchy.j0 k y0 y1 y2) (matrix_Cauchy.j0 (k + 1) y0 y1 y2)) ∧ (∀ y0 y1 y2 y3 y4, LeO (matrix_Cauchy.l0 k y0 y1 y2 y3 y4) (matrix_Cauchy.l0 (k + 1) y0 y1 y2 y3 y4)) ∧ (∀ y0 y1 y2 y3 y4 y5 y6 y7 y8, LeO (matrix_Cauchy.l1 k y0 y1 y2 y3 y4 y5 y6 y7 y8) (matrix_Cauchy.l1 (k + 1) y0 y1 y2 y3 y4 y5 y6 y7 y8))
  | 0 => ⟨fun _ _ _ r h => by simp [matrix_Cauchy.j0] at h, fun _ _ _ _ _ r h => by simp [matrix_Cauchy.l0] at h, fun _ _ _ _ _ _ _ _ _ r h => by simp [matrix_Cauchy.l1] at h⟩
  | k + 1 => by
    obtain ⟨ih0, ih1, ih2⟩ := matrix_Cauchy.mono_l k
    refine ⟨?_, ?_, ?_⟩
    · intro y0 y1 y2
      unfold matrix_Cauchy.j0
      repeat' first
      | (with_reducible exact ih0 _ _ _)
      | (with_reducible exact ih1 _ _ _ _ _)
      | (with_reducible exact ih2 _ _ _ _ _ _ _ _ _)
      | (with_reducible exact matrix_Identity.mono _ _)
      | (with_reducible exact LeO.refl _)
      | (with_reducible exact LeO.none _)
      | (with_reducible refine LeO.ite ?_ ?_)
      | (with_reducible refine LeO.bind ?_ (fun _ => ?_))
      | exact ih0 _ _ _
      | exact ih1 _ _ _ _ _
      | exact ih2 _ _ _ _ _ _ _ _ _
      | exact matrix_Identity.mono _ _
      | exact LeO.none _
      | refine LeO.ite ?_ ?_
      | refine LeO.bind ?_ (fun _ => ?_)
    · intro y0 y1 y2 y3 y4
      unfold matrix_Cauchy.l0
      repeat' first
      | (with_reducible exact ih0 _ _ _)
      | (with_reducible exact ih1 _ _ _ _ _)
      | (with_reducible exact ih2 _ _ _ _ _ _ _ _ _)
      | (with_reducible exact matrix_Identity.mono _ _)
      | (with_reducible exact LeO.refl _)
      | (with_reducible exact LeO.none _)
      | (with_reducible refine LeO.ite ?_ ?_)
      | (with_reducible refine LeO.bind ?_ (fun _ => ?_))
      | exact ih0 _ _ _
      | exact ih1 _ _ _ _ _
      | exact ih2 _ _ _ _ _ _ _ _ _
      | exact matrix_Identity.mono _ _
      | exact LeO.none _
      | refine LeO.ite ?_ ?_
      | refine LeO.bind ?_ (fun _ => ?_)
    · intro y0 y1 y2 y3 y4 y5 y6 y7 y8
      unfold matrix_Cauchy.l1
      repeat' first
      | (with_reducible exact ih0 _ _ _)
      | (with_reducible exact ih1 _ _ _ _ _)
      | (with_reducible exact ih2 _ _ _ _ _ _ _ _ _)
      | (with_reducible exact matrix_Identity.mono _ _)
      | (with_reducible exact LeO.refl _)
      | (with_reducible exact LeO.none _)
      | (with_reducible refine LeO.ite ?_ ?_)
      | (with_reducible refine LeO.bind ?_ (fun _ => ?_))
      | exact ih0 _ _ _
      | exact ih1 _ _ _ _ _
      | exact ih2 _ _ _ _ _ _ _ _ _
      | exact matrix_Identity.mono _ _
      | exact LeO.none _
      | refine LeO.ite ?_ ?_
      | refine LeO.bind ?_ (fun _ => ?_)
theorem matrix_Cauchy.mono : ∀ a0 a1 k, LeO (matrix_Cauchy.f k a0 a1) (matrix_Cauchy.f (k + 1) a0 a1) := by
  intro a0 a1 k
  obtain ⟨ih0, ih1, ih2⟩ := matrix_Cauchy.mono_l k
  unfold matrix_Cauchy.f
  repeat' first
      | (with_reducible exact ih0 _ _ _)
      | (with_reducible exact ih1 _ _ _ _ _)
      | (with_reducible exact ih2 _ _ _ _ _ _ _ _ _)
      | (with_reducible exact matrix_Identity.mono _ _)
      | (with_reducible exact LeO.refl _)
      | (with_reducible exact LeO.none _)
      | (with_reducible refine LeO.ite ?_ ?_)
      | (with_reducible refine LeO.bind ?_ (fun _ => ?_))
      | exact ih0 _ _ _
      | exact ih1 _ _ _ _ _
      | exact ih2 _ _ _ _ _ _ _ _ _
      | exact matrix_Identity.mono _ _
      | exact LeO.none _
      | refine LeO.ite ?_ ?_
      | refine LeO.bind ?_ (fun _ => ?_)
set_option maxHeartbeats 8000000 in
set_option maxRecDepth 100000 in
theorem matrix_Cauchy.calls (k : Nat) (a0 : Int) (a1 : Int) (r1 : List (List Int)) (r2 : Int) (w : World) (h : matrix_Cauchy.f k a0 a1 = some (r1, r2)) :
    Calls Try.prog 71 #[.int .i64 a0, .int .i64 a1] w fun e w' => ∃ v0_ : Value, e = .returned (.tuple #[v0_, .int .i64 r2]) ∧ Kd.S (Kd.slice 5 (Kd.int .u8)) 22 w' w.heap.size (fun _ => True) v0_ r1 ∧ Below w.heap.size w w' := by
  have HB := Aside0.mk (Below.refl w.heap.size w)
  have H : (if a0 < 1 then (matrix_Cauchy.j0 k a0 a1 true) else (if a1 < 1 then (matrix_Cauchy.j0 k a0 a1 true) else (if a0 > 255 then (matrix_Cauchy.j0 k a0 a1 true) else (matrix_Cauchy.j0 k a0 a1 (decide (a1 > (wrap64 (255 - a0)))))))) = some (r1, r2) := h
  clear h
  have HC3 := Aside0.mk H
  clear H
  go_enter Try.func71, Try.ntmps71
  go_upto_region 1 with (fail)
  go_cut [26] (fun v26 wc => ∃ (kq : Nat) (x26_2 : Bool), v26 = .bool x26_2 ∧ Aside0 (matrix_Cauchy.j0 kq a0 a1 x26_2 = some (r1, r2)) ∧ Aside0 (kq ≤ k) ∧ Aside0 (Below w.heap.size w wc))
  case first =>
    have H := HC3.out
    clear HC3
    by_cases c4 : a0 < 1
    · rw [if_pos c4] at H
      have c4b0 : decide (a0 < 1) = true := decide_eq_true c4
      clear c4
      (first | rw [c4b0] | (simp only [i64_w, i32_w]; rw [c4b0]) | skip)
      have H' := Aside0.mk H
      clear H
      go_wp2
      go_meet
      case rel => exact ⟨_, (true), (by first | rfl | (simp; done) | (simp [*]; done)), H', ⟨by first | omega | exact Nat.le_refl _⟩, ⟨by repeat (first | (with_reducible first | exact HB.out | apply below_alloc | apply pw_below_drewN | apply below_drew1) | exact HB.out)⟩⟩
    · rw [if_neg c4] at H
      have c4b0 : decide (a0 < 1) = false := decide_eq_false c4
      clear c4
      (first | rw [c4b0] | (simp only [i64_w, i32_w]; rw [c4b0]) | skip)
      by_cases c5 : a1 < 1
      · rw [if_pos c5] at H
        have c5b0 : decide (a1 < 1) = true := decide_eq_true c5
        clear c5
        have H' := Aside0.mk H
        clear H
        go_wp2
        go_meet
        case rel => exact ⟨_, (true), (by first | rfl | (simp; done) | (simp [*]; done)), H', ⟨by first | omega | exact Nat.le_refl _⟩, ⟨by repeat (first | (with_reducible first | exact HB.out | apply below_alloc | apply pw_below_drewN | apply below_drew1) | exact HB.out)⟩⟩
      · rw [if_neg c5] at H
        have c5b0 : decide (a1 < 1) = false := decide_eq_false c5
        clear c5
        by_cases c6 : a0 > 255
        · rw [if_pos c6] at H
          have c6b0 : decide (255 < a0) = true := decide_eq_true c6
          clear c6
          have H' := Aside0.mk H
          clear H
          go_wp2
          go_meet
          case rel => exact ⟨_, (true), (by first | rfl | (simp; done) | (simp [*]; done)), H', ⟨by first | omega | exact Nat.le_refl _⟩, ⟨by repeat (first | (with_reducible first | exact HB.out | apply below_alloc | apply pw_below_drewN | apply below_drew1) | exact HB.out)⟩⟩
        · rw [if_neg c6] at H
          have c6b0 : decide (255 < a0) = false := decide_eq_false c6
          clear c6
          have H' := Aside0.mk H
          clear H
          go_wp2
          go_meet
          case rel => exact ⟨_, (decide (a1 > (wrap64 (255 - a0)))), (by first | rfl | (simp; done) | (simp [*]; done)), H', ⟨by first | omega | exact Nat.le_refl _⟩, ⟨by repeat (first | (with_reducible first | exact HB.out | apply below_alloc | apply pw_below_drewN | apply below_drew1) | exact HB.out)⟩⟩
  case rest =>
    clear HC3
    try clear p2
    try clear c4
    try clear c4b0
    try clear c5
    try clear c5b0
    try clear c6
    try clear c6b0
    try clear p6
    obtain ⟨kq, x26_2, rfl, HA, HJ2, HB⟩ := hcut
    cases kq with
    | zero => exact absurd HA.out (by simp [matrix_Cauchy.j0])
    | succ kj2 =>
      have H := HA.out
      clear HA
      simp only [matrix_Cauchy.j0] at H
      by_cases c7 : x26_2 = true
      · subst c7
        have H1 : (some (([] : List (List Int)), 1)) = some (r1, r2) := by rw [if_pos rfl] at H; exact H
        clear H
        have H := H1
        clear H1
        simp only [Option.some.injEq, Prod.mk.injEq] at H
        obtain ⟨rfl, rfl⟩ := H
        go_wp2
        go_ret2
        exact ⟨_, by first | rfl | (simp [errW_none, errW_some] <;> rfl) | (simp [*, errW_none, errW_some] <;> rfl), by first | exact Kd.S_nil _ _ _ _ _ | exact Kd.N_nil _ _ _ _ _ | exact Kd.V_nil _ _ _ _ _ | exact Kd.Q_nil _ _ _ _ _ | exact Kd.R_nil _ _ _ _ _, by repeat (first | (with_reducible first | exact HB.out | apply below_alloc | apply pw_below_drewN | apply below_drew1) | exact HB.out)⟩
      · replace c7 := Bool.eq_false_iff.mpr c7
        subst c7
        have H1 : ((matrix_Identity.f kj2 a0).bind fun bt101 => (matrix_Cauchy.l0 kj2 a0 a1 bt101.1 a1 0)) = some (r1, r2) := by rw [if_neg (show ¬ (false = true) by decide)] at H; exact H
        clear H
        have H := H1
        clear H1
        replace H := Option.bind_eq_some_iff.mp H
        obtain ⟨⟨t101, t102⟩, A80, H⟩ := H
        replace H : (matrix_Cauchy.l0 kj2 a0 a1 t101 a1 0) = some (r1, r2) := H
        have A8 := Aside0.mk A80
        clear A80
        have H' := Aside0.mk H
        clear H
        go_wp2_with (first | ((with_reducible refine gate_callee (f := 68) rfl ?_); refine goesL_ (some 29) rfl rfl Try.func68 (by kernel_rfl) rfl #[.int .i64 a0] rfl (by (try simp only [List.map_toArray, List.map_cons, List.map_nil]); first | done | rfl | (simp only [List.length_drop, List.length_take]; rfl)) ?_; (with_reducible refine (matrix_Identity.calls kj2 a0 t101 t102 _ A8.out).mono ?_); rintro e w9 ⟨v103, rfl, ho0, hb⟩; refine ⟨_, rfl, ?_⟩; have n0_ := Aside0.mk (Kd.S_lower ho0 (below_size (by repeat (first | (with_reducible first | exact HB.out | apply below_alloc | apply pw_below_drewN | apply below_drew1) | exact HB.out)))); have n1_ := Aside0.mk (below_step (by repeat (first | (with_reducible first | exact HB.out | apply below_alloc | apply pw_below_drewN | apply below_drew1) | exact HB.out)) hb); clear HB; have HO104 := n0_; have HB := n1_; clear n0_ n1_; (try clear hb); (try clear hb2); (try clear hk); (try clear hi); (try clear ho0)))
        go_loopg [6, 33] kj2 (fun kq v6 v33 w' => ∃ (x6_2 : List (List Int)) (x33_2 : Int), v33 = .int .i64 x33_2 ∧ Aside0 (matrix_Cauchy.l0 kq a0 a1 x6_2 a1 x33_2 = some (r1, r2)) ∧ Aside0 (kq ≤ kj2) ∧ Aside0 (Kd.S (Kd.slice 5 (Kd.int .u8)) 22 w' w.heap.size (fun _ => True) v6 x6_2) ∧ Aside0 (Below w.heap.size w w'))
        case atStart => exact ⟨(t101), (0), (by first | rfl | (simp; done) | (simp [*]; done)), H', ⟨Nat.le_refl _⟩, ⟨by (with_reducible repeat (first | apply Kd.S_alloc | apply Kd.S_drewN | apply Kd.S_drew)); exact HO104.out⟩, ⟨by repeat (first | (with_reducible first | exact HB.out | apply below_alloc | apply pw_below_drewN | apply below_drew1) | exact HB.out)⟩⟩
        case round =>
          clear H'
          try clear p2
          try clear c4
          try clear c4b0
          try clear c5
          try clear c5b0
          try clear c6
          try clear c6b0
          try clear p6
          try clear c7
          try clear p2
          try clear p6
          obtain ⟨x6_2, x33_2, rfl, HA, HK2, HO_6, HB⟩ := hrel
          cases gk with
          | zero => exact absurd HA.out (by simp [matrix_Cauchy.l0])
          | succ k2 =>
            have H := HA.out
            clear HA
            simp only [matrix_Cauchy.l0] at H
            by_cases c10 : x33_2 < a1
            · rw [if_pos c10] at H
              have c10b0 : decide (x33_2 < a1) = true := decide_eq_true c10
              clear c10
              by_cases c11 : 0 ≤ a0
              · rw [if_pos c11] at H
                have c11b0 := eq_true c11
                have c11b1 : decide (0 ≤ a0) = true := decide_eq_true c11
                clear c11
                by_cases c12 : (a0 : Int).toNat ≤ 281474976710656
                · rw [if_pos c12] at H
                  have c12b0 := eq_true c12
                  have c12b1 : decide ((a0 : Int).toNat ≤ 281474976710656) = true := decide_eq_true c12
                  clear c12
                  obtain ⟨y105, hy105⟩ : ∃ y_ : List Int, y_ = (List.replicate (a0 : Int).toNat 0) := ⟨_, rfl⟩
                  replace H : (matrix_Cauchy.l1 k2 a0 a1 x6_2 x33_2 y105 a1 x33_2 a0 0) = some (r1, r2) := by first | (rw [hy105]; with_reducible exact H) | (have H2_ := (Option.bind_some _ _).symm.trans H; rw [hy105]; with_reducible exact H2_) | (have H2_ := (Option.bind_some _ _).symm.trans H; with_reducible exact H2_) | with_reducible exact H | (rw [hy105]; exact H) | exact H
                  have Ny105 := Aside0.mk hy105
                  clear hy105
                  have H' := Aside0.mk H
                  clear H
                  go_wp2_with (first | ((with_reducible refine gate_dst (N := 37) rfl ?_); refine Kd.R_make (Kd.int .u8) _ 5 rfl (N := 37) rfl 22 _ _ rfl a0 rfl rfl Try.underlying22 (.int .u8 0) 1 info5 rfl (by decide) (by omega) 0 (ok := fun _ => True) (okp := fun _ => True) rfl (fun _ hk => hk) trivial (of_decide_eq_true (by first | (with_reducible assumption) | assumption)) (Nat.le_trans (Nat.mul_le_mul_right _ (of_decide_eq_true (by first | (with_reducible assumption) | assumption) : a0.toNat ≤ 281474976710656)) (by omega)) (Below.refl _ _) (Nat.le_refl _) ?_; intro v106 w13 ho14 hb hg_ hnew_; clear hg_ hnew_; (first | rw [← Ny105.out] at ho14 | (simp only [Int.reduceToNat] at ho14; rw [← Ny105.out] at ho14)); have n0_ := Aside0.mk (Kd.S_elder' (by (with_reducible repeat (first | apply Kd.S_alloc | apply Kd.S_drewN | apply Kd.S_drew)); exact HO_6.out) (Kd.R_base ho14) hb); have n1_ := Aside0.mk (Kd.R_lower ho14 (below_size (by repeat (first | (with_reducible first | exact HB.out | apply below_alloc | apply pw_below_drewN | apply below_drew1) | exact HB.out)))); have n2_ := Aside0.mk (below_step (by repeat (first | (with_reducible first | exact HB.out | apply below_alloc | apply pw_below_drewN | apply below_drew1) | exact HB.out)) hb); clear HO_6; clear HB; have HO_6 := n0_; have HO107 := n1_; have HB := n2_; clear n0_ n1_ n2_; clear hb ho14))
                  go_loopg [39] k2 (fun kq v39 w' => ∃ (x9_3 : List Int) (x39_3 : Int), v39 = .int .i64 x39_3 ∧ Aside0 (matrix_Cauchy.l1 kq a0 a1 x6_2 x33_2 x9_3 a1 x33_2 a0 x39_3 = some (r1, r2)) ∧ Aside0 (kq ≤ k2) ∧ Aside0 (Kd.S (Kd.slice 5 (Kd.int .u8)) 22 w' w.heap.size (fun k_ => some k_ ≠ (v106 : Value).ownBlock) u6 x6_2) ∧ Aside0 (Kd.R (Kd.int .u8) 5 w' w.heap.size (fun _ => True) v106 x9_3) ∧ Aside0 (Below w.heap.size w w'))
                  case atStart => exact ⟨(y105), (0), (by first | rfl | (simp; done) | (simp [*]; done)), H', ⟨Nat.le_refl _⟩, ⟨by (with_reducible repeat (first | apply Kd.S_alloc | apply Kd.S_drewN | apply Kd.S_drew)); exact Kd.S_mono HO_6.out (fun _ hk => hk.2)⟩, ⟨by (with_reducible repeat (first | apply Kd.R_alloc | apply Kd.R_drewN | apply Kd.R_drew)); exact HO107.out⟩, ⟨by repeat (first | (with_reducible first | exact HB.out | apply below_alloc | apply pw_below_drewN | apply below_drew1) | exact HB.out)⟩⟩
                  case round =>
                    clear H'
                    try clear c1
                    try clear p2
                    try clear c4
                    try clear c4b0
                    try clear c5
                    try clear c5b0
                    try clear c6
                    try clear c6b0
                    try clear p6
                    try clear c7
                    try clear c10
                    try clear c10b0
                    try clear c11
                    try clear c11b0
                    try clear c11b1
                    try clear c12
                    try clear c12b0
                    try clear c12b1
                    try clear p2
                    try clear p6
                    obtain ⟨x9_3, x39_3, rfl, HA, HK3, HO_6, HO_9, HB⟩ := hrel
                    cases gk with
                    | zero => exact absurd HA.out (by simp [matrix_Cauchy.l1])
                    | succ k3 =>
                      have H := HA.out
                      clear HA
                      simp only [matrix_Cauchy.l1] at H
                      by_cases c15 : x39_3 < a0
                      · rw [if_pos c15] at H
                        have c15b0 : decide (x39_3 < a0) = true := decide_eq_true c15
                        clear c15
                        replace H := Option.bind_eq_some_iff.mp H
                        obtain ⟨⟨t108, t109⟩, A160, H⟩ := H
                        replace H : (if 0 ≤ x39_3 then (if x39_3 < (x9_3.length : Int) then (matrix_Cauchy.l1 k3 a0 a1 x6_2 x33_2 (x9_3.set (x39_3 : Int).toNat t108) a1 x33_2 a0 (wrap64 (x39_3 + 1))) else (none)) else (none)) = some (r1, r2) := H
                        have A16 := Aside0.mk A160
                        clear A160
                        by_cases c17 : 0 ≤ x39_3
                        · rw [if_pos c17] at H
                          have c17b0 : decide (0 ≤ x39_3) = true := decide_eq_true c17
                          clear c17
                          by_cases c18 : x39_3 < (x9_3.length : Int)
                          · rw [if_pos c18] at H
                            have c18b0 : decide (x39_3 < (x9_3.length : Int)) = true := decide_eq_true c18
                            clear c18
                            obtain ⟨y110, hy110⟩ : ∃ y_ : List Int, y_ = (x9_3.set (x39_3 : Int).toNat t108) := ⟨_, rfl⟩
                            replace H : (matrix_Cauchy.l1 k3 a0 a1 x6_2 x33_2 y110 a1 x33_2 a0 (wrap64 (x39_3 + 1))) = some (r1, r2) := by first | (rw [hy110]; with_reducible exact H) | (have H2_ := (Option.bind_some _ _).symm.trans H; rw [hy110]; with_reducible exact H2_) | (have H2_ := (Option.bind_some _ _).symm.trans H; with_reducible exact H2_) | with_reducible exact H | (rw [hy110]; exact H) | exact H
                            have Ny110 := Aside0.mk hy110
                            clear hy110
                            have H' := Aside0.mk H
                            clear H
                            go_wp2_with (first | ((with_reducible refine gate_callee (f := 28) rfl ?_); refine goesL_ (some 52) rfl rfl Try.func28 (by kernel_rfl) rfl #[.int .u8 (Go.bits .xor .u8 ((x33_2) % 256) ((wrap64 (a1 + x39_3)) % 256))] rfl (by (try simp only [List.map_toArray, List.map_cons, List.map_nil]); first | done | rfl | (simp only [List.length_drop, List.length_take]; rfl)) ?_; (with_reducible refine (gf_Inv.calls (Go.bits .xor .u8 ((x33_2) % 256) ((wrap64 (a1 + x39_3)) % 256)) t108 t109 _ A16.out).mono ?_); rintro e w20 ⟨rfl, hb⟩; refine ⟨_, rfl, ?_⟩; have n0_ := Aside0.mk (Kd.S_below (by (with_reducible repeat (first | apply Kd.S_alloc | apply Kd.S_drewN | apply Kd.S_drew)); exact HO_6.out) hb); have n1_ := Aside0.mk (Kd.R_below (by (with_reducible repeat (first | apply Kd.R_alloc | apply Kd.R_drewN | apply Kd.R_drew)); exact HO_9.out) hb); have n2_ := Aside0.mk (below_step (by repeat (first | (with_reducible first | exact HB.out | apply below_alloc | apply pw_below_drewN | apply below_drew1) | exact HB.out)) hb); clear HO_6; clear HO_9; clear HB; have HO_6 := n0_; have HO_9 := n1_; have HB := n2_; clear n0_ n1_ n2_; (try clear hb); (try clear hb2); (try clear hk); (try clear hi); have p19 : 0 ≤ (x39_3 : Int) := of_decide_eq_true (by first | (with_reducible assumption) | assumption); have q19 : (x39_3 : Int) < ((x9_3.length : Int) : Int) := of_decide_eq_true (by first | (with_reducible assumption) | assumption); obtain ⟨go19, co19, eo19, gb19, gl19, cl19, HG19⟩ := Kd.R_form HO_9.out (by omega); (first | cases eo19 | (injection eo19 with ea_ en_ ec_; (first | subst ea_ | (injection ea_ with ea_; subst ea_)); subst ec_; clear en_)); have GB19 := Aside0.mk gb19; have GG19 := Aside0.mk HG19; clear gb19 gl19 HG19; obtain ⟨hx19_0, hf19_0⟩ := Kd.R_celln 0 HO_9.out (x39_3 : Int) p19 q19; replace p19 := eq_true p19; replace q19 := eq_true q19; obtain ⟨hy21_, hz21_⟩ := Kd.R_celln 0 HO_9.out (x39_3 : Int) (of_decide_eq_true (by first | (with_reducible assumption) | assumption)) (of_decide_eq_true (by first | (with_reducible assumption) | assumption)); have HP21 := Kd.R_putg HO_9.out (x39_3 : Int) t108) | ((with_reducible refine gate_store (t := 5) (p := 55) rfl ?_); refine store_event (t := 5) (p := 55) (v := ?vo_w22) (w1 := (w20.setCell ⟨go19, (x39_3 : Int).toNat, none⟩ (.int .u8 t108))) ?hg ?ho ?hn ?hr ?_; (case ho => rfl); (case hg => rfl); (case hn => rfl); (case hr => first | (go_simp; done) | (go_simp; rfl)); intro w22 hw; have hg : w20.grownBy w22 (some go19) := (by rw [hw]; exact HP21.2); have hp_ : Kd.R (Kd.int .u8) 5 w22 w.heap.size (fun _ => True) (.slice (some ⟨go19, 0, none⟩) x9_3.length co19) y110 := (by rw [hw, Ny110.out]; exact HP21.1); clear HP21; have n0_ := Aside0.mk (Kd.S_after (v := (.slice (some ⟨go19, 0, none⟩) x9_3.length co19)) (v1 := (.slice (some ⟨go19, 0, none⟩) x9_3.length co19)) (ok := (fun _ => True)) (by (with_reducible repeat (first | apply Kd.S_alloc | apply Kd.S_drewN | apply Kd.S_drew)); exact Kd.S_mono HO_6.out (fun _ hk => ⟨trivial, hk⟩)) hg (.inl rfl)); have n1_ := Aside0.mk (hp_); have n2_ := Aside0.mk ((by rw [hw]; exact below_set (HB.out) GB19.out : Below w.heap.size w w22)); clear HO_6; clear HO_9; clear HB; have HO_6 := n0_; have HO_9 := n1_; have HB := n2_; clear n0_ n1_ n2_; clear hg hw hp_))
                            go_roundg k3
                            case measure => have := HJ2.out; have := HK2.out; have := HK3.out; omega
                            case rel => exact ⟨(y110), (wrap64 (x39_3 + 1)), (by first | rfl | (simp; done) | (simp [*]; done)), H', ⟨by have := HJ2.out; have := HK2.out; have := HK3.out; omega⟩, ⟨by (with_reducible repeat (first | apply Kd.S_alloc | apply Kd.S_drewN | apply Kd.S_drew)); exact Kd.S_mono HO_6.out (fun _ hk => hk.2)⟩, ⟨by (with_reducible repeat (first | apply Kd.R_alloc | apply Kd.R_drewN | apply Kd.R_drew)); exact HO_9.out⟩, ⟨by repeat (first | (with_reducible first | exact HB.out | apply below_alloc | apply pw_below_drewN | apply below_drew1) | exact HB.out)⟩⟩
                          · rw [if_neg c18] at H
                            exact absurd H (by simp)
                        · rw [if_neg c17] at H
                          exact absurd H (by simp)
                      · rw [if_neg c15] at H
                        have c15b0 : decide (x39_3 < a0) = false := decide_eq_false c15
                        clear c15
                        by_cases c23 : x6_2.length < 5864062014805
                        · rw [if_pos c23] at H
                          have LMc23 := Aside0.mk c23
                          clear c23
                          obtain ⟨y111, hy111⟩ : ∃ y_ : List (List Int), y_ = (x6_2 ++ [x9_3]) := ⟨_, rfl⟩
                          replace H : (matrix_Cauchy.l0 k3 a0 a1 y111 a1 (wrap64 (x33_2 + 1))) = some (r1, r2) := by first | (rw [hy111]; with_reducible exact H) | (have H2_ := (Option.bind_some _ _).symm.trans H; rw [hy111]; with_reducible exact H2_) | (have H2_ := (Option.bind_some _ _).symm.trans H; with_reducible exact H2_) | with_reducible exact H | (rw [hy111]; exact H) | exact H
                          have Ny111 := Aside0.mk hy111
                          clear hy111
                          have H' := Aside0.mk H
                          clear H
                          obtain ⟨Ao25, co25, eo25⟩ := Kd.R_slice HO_9.out
                          subst eo25
                          go_wp2_with (first | ((with_reducible refine gate_builtin (b := .append) (xs := #[.tmp 57, .tmp 59]) rfl ?_); at_builtin; refine Kd.S_append (Kd.slice 5 (Kd.int .u8)) (w0 := w) w.heap.size rfl (.tmp 57) (.tmp 59) 51 22 (.slice none 0 0) 24 rfl Try.underlying51 info22 rfl (by decide) (by omega) u6 x6_2 x9_3 [.slice Ao25 x9_3.length co25] (fun _ => True) (fun k_ => some k_ = (.slice Ao25 x9_3.length co25 : Value).ownBlock) rfl rfl ?aP (fun k_ hk_ => ((Kd.R_mono (ok' := fun k_ => ((fun _ => True)) k_ ∧ some k_ ≠ (u6 : Value).ownBlock) (Kd.R_apart' (HO_9.out) (Kd.S_typed HO_6.out) (by decide)) (fun k_ hk => ⟨trivial, hk.2⟩))).1 k_ hk_.symm) ?aF ?aO ?aB ?aS ?aL ?_; (case aP => exact Kd.M_row (Kd.R_mono (Kd.R_tight rfl (Kd.R_mono (ok' := fun k_ => ((fun _ => True)) k_ ∧ some k_ ≠ (u6 : Value).ownBlock) (Kd.R_apart' (HO_9.out) (Kd.S_typed HO_6.out) (by decide)) (fun k_ hk => ⟨trivial, hk.2⟩))) (fun _ h_ => h_))); (case aB => exact (by repeat (first | (with_reducible first | exact HB.out | apply below_alloc | apply pw_below_drewN | apply below_drew1) | exact HB.out))); (case aF => exact (fun _ _ => trivial)); (case aO => exact (by (with_reducible repeat (first | apply Kd.S_alloc | apply Kd.S_drewN | apply Kd.S_drew)); exact Kd.S_mono HO_6.out (fun k_ hk => ⟨trivial, fun e_ => hk e_⟩))); (case aS => exact (below_size (by repeat (first | (with_reducible first | exact HB.out | apply below_alloc | apply pw_below_drewN | apply below_drew1) | exact HB.out)))); (case aL => have := LMc23.out; omega); intro v112 w24 ho hb hg hat; rw [← Ny111.out] at ho; have n0_ := Aside0.mk (hb); have n1_ := Aside0.mk (ho); clear HB; clear HO_6; clear HO_9; have HB := n0_; have HO113 := n1_; clear n0_ n1_; clear ho hb hg hat))
                          go_roundg k3
                          case measure => have := HJ2.out; have := HK2.out; have := HK3.out; omega
                          case rel => exact ⟨(y111), (wrap64 (x33_2 + 1)), (by first | rfl | (simp; done) | (simp [*]; done)), H', ⟨by have := HJ2.out; have := HK2.out; have := HK3.out; omega⟩, ⟨by (with_reducible repeat (first | apply Kd.S_alloc | apply Kd.S_drewN | apply Kd.S_drew)); exact HO113.out⟩, ⟨by repeat (first | (with_reducible first | exact HB.out | apply below_alloc | apply pw_below_drewN | apply below_drew1) | exact HB.out)⟩⟩
                        · rw [if_neg c23] at H
                          exact absurd H (by simp)
                · rw [if_neg c12] at H
                  exact absurd H (by simp)
              · rw [if_neg c11] at H
                exact absurd H (by simp)
            · rw [if_neg c10] at H
              have c10b0 : decide (x33_2 < a1) = false := decide_eq_false c10
              clear c10
              simp only [Option.some.injEq, Prod.mk.injEq] at H
              obtain ⟨rfl, rfl⟩ := H
              go_wp2
              go_ret2
              exact ⟨_, by first | rfl | (simp [errW_none, errW_some] <;> rfl) | (simp [*, errW_none, errW_some] <;> rfl), by (with_reducible repeat (first | apply Kd.S_alloc | apply Kd.S_drewN | apply Kd.S_drew)); exact HO_6.out, by repeat (first | (with_reducible first | exact HB.out | apply below_alloc | apply pw_below_drewN | apply below_drew1) | exact HB.out)⟩

end Go.Proofs.Ytbogmlckbkogiaa.P
