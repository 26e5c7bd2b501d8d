import Derived.Test.YtbogmlckbkogiaaMMatrixRows1
import Derived.Test.YtbogmlckbkogiaaMMatrixRows3
import Derived.Test.YtbogmlckbkogiaaMMatrixRows2
-- Printed by a wrapper (wip/tools/myprint.py) of the kit's print, with hand-written contracts as given leaves.
namespace Go.Proofs.Ytbogmlckbkogiaa.P
open Go.Proofs.Ytbogmlckbkogiaa.Leaf
open Go.RowKit Go.Proofs.YtbogmlckbkogiaaW.PrintWords Go.Proofs.YtbogmlckbkogiaaW.PrintLast Go.Proofs.YtbogmlckbkogiaaW.PrintMore
attribute [local go_sem] max2_int min2_int max_two min_two max_three min_three max_four min_four   -- for this text's walks alone
set_option linter.unusedVariables false
set_option linter.unusedSimpArgs false

/-! ### matrix_Identity: function 68 -/
mutual
def matrix_Identity.j0 : Nat → Int → Bool → Option ((List (List Int)) × Int)
  | 0, _, _ => none
  | k + 1, x0, x11 => if x11 = true then (some (([] : List (List Int)), 1)) else ((matrix_zeros.f k x0 x0).bind fun t101 => (matrix_Identity.l0 k t101 (t101.length : Int) 0))
def matrix_Identity.l0 : Nat → List (List Int) → Int → Int → Option ((List (List Int)) × Int)
  | 0, _, _, _ => none
  | k + 1, x4, x16, x17 => if x17 < x16 then (if 0 ≤ x17 then (if x17 < (x4.length : Int) then (if x17 < ((rd_L1 x4 x17).length : Int) then (matrix_Identity.l0 k (x4.set (x17 : Int).toNat ((rd_L1 x4 x17).set (x17 : Int).toNat 1)) x16 (wrap64 (x17 + 1))) else (none)) else (none)) else (none)) else (some (x4, 0))
end
def matrix_Identity.f (k : Nat) (a0 : Int) : Option ((List (List Int)) × Int) := if a0 < 1 then (matrix_Identity.j0 k a0 true) else (matrix_Identity.j0 k a0 (decide (a0 > 255)))
theorem matrix_Identity.mono_l : ∀ k, (∀ y0 y1, LeO (matrix_Identity.j0 k y0 y1) (matrix_Identity.j0 (k + 1) y0 y1)) ∧ (∀ y0 y1 y2, LeO (matrix_Identity.l0 k y0 y1 y2) (matrix_Identity.l0 (k + 1) y0 y1 y2))
  | 0 => ⟨fun _ _ r h => by simp [matrix_Identity.j0] at h, fun _ _ _ r h => by simp [matrix_Identity.l0] at h⟩
  | k + 1 => by
    obtain ⟨ih0, ih1⟩ := matrix_Identity.mono_l k
    refine ⟨?_, ?_⟩
    · intro y0 y1
      unfold matrix_Identity.j0
      repeat' first
      | (with_reducible exact ih0 _ _)
      | (with_reducible exact ih1 _ _ _)
      | (with_reducible exact matrix_zeros.mono _ _ _)
      | (with_reducible exact LeO.refl _)
      | (with_reducible exact LeO.none _)
      | (with_reducible refine LeO.ite ?_ ?_)
      | (with_reducible refine LeO.bind ?_ (fun _ => ?_))
      | exact ih0 _ _
      | exact ih1 _ _ _
      | exact matrix_zeros.mono _ _ _
      | exact LeO.none _
      | refine LeO.ite ?_ ?_
      | refine LeO.bind ?_ (fun _ => ?_)
    · intro y0 y1 y2
      unfold matrix_Identity.l0
      repeat' first
      | (with_reducible exact ih0 _ _)
      | (with_reducible exact ih1 _ _ _)
      | (with_reducible exact matrix_zeros.mono _ _ _)
      | (with_reducible exact LeO.refl _)
      | (with_reducible exact LeO.none _)
      | (with_reducible refine LeO.ite ?_ ?_)
      | (with_reducible refine LeO.bind ?_ (fun _ => ?_))
      | exact ih0 _ _
      | exact ih1 _ _ _
      | exact matrix_zeros.mono _ _ _
      | exact LeO.none _
      | refine LeO.ite ?_ ?_
      | refine LeO.bind ?_ (fun _ => ?_)
theorem matrix_Identity.mono : ∀ a0 k, LeO (matrix_Identity.f k a0) (matrix_Identity.f (k + 1) a0) := by
  intro a0 k
  obtain ⟨ih0, ih1⟩ := matrix_Identity.mono_l k
  unfold matrix_Identity.f
  repeat' first
      | (with_reducible exact ih0 _ _)
      | (with_reducible exact ih1 _ _ _)
      | (with_reducible exact matrix_zeros.mono _ _ _)
      | (with_reducible exact LeO.refl _)
      | (with_reducible exact LeO.none _)
      | (with_reducible refine LeO.ite ?_ ?_)
      | (with_reducible refine LeO.bind ?_ (fun _ => ?_))
      | exact ih0 _ _
      | exact ih1 _ _ _
      | exact matrix_zeros.mono _ _ _
      | exact LeO.none _
      | refine LeO.ite ?_ ?_
      | refine LeO.bind ?_ (fun _ => ?_)
set_option maxHeartbeats 8000000 in
set_option maxRecDepth 100000 in
theorem matrix_Identity.calls (k : Nat) (a0 : Int) (r1 : List (List Int)) (r2 : Int) (w : World) (h : matrix_Identity.f k a0 = some (r1, r2)) :
    Calls Try.prog 68 #[.int .i64 a0] w fun e w' => ∃ v0_ : Value, e = .returned (.tuple #[v0_, .int .i64 r2]) ∧ Kd.S (Kd.slice 5 (Kd.int .u8)) 22 w' w.heap.size (fun _ => True) v0_ r1 ∧ Below w.heap.size w w' := by
  have HB := Aside0.mk (Below.refl w.heap.size w)
  have H : (if a0 < 1 then (matrix_Identity.j0 k a0 true) else (matrix_Identity.j0 k a0 (decide (a0 > 255)))) = some (r1, r2) := h
  clear h
  have HC2 := Aside0.mk H
  clear H
  go_enter Try.func68, Try.ntmps68
  go_upto_region 1 with (fail)
  go_cut [11] (fun v11 wc => ∃ (kq : Nat) (x11_1 : Bool), v11 = .bool x11_1 ∧ Aside0 (matrix_Identity.j0 kq a0 x11_1 = some (r1, r2)) ∧ Aside0 (kq ≤ k) ∧ Aside0 (Below w.heap.size w wc))
  case first =>
    have H := HC2.out
    clear HC2
    by_cases c3 : a0 < 1
    · rw [if_pos c3] at H
      have c3b0 : decide (a0 < 1) = true := decide_eq_true c3
      clear c3
      (first | rw [c3b0] | (simp only [i64_w, i32_w]; rw [c3b0]) | skip)
      have H' := Aside0.mk H
      clear H
      go_wp2
      go_meet
      case rel => exact ⟨_, (true), (by first | rfl | (simp; done) | (simp [*]; done)), H', ⟨by first | omega | exact Nat.le_refl _⟩, ⟨by repeat (first | (with_reducible first | exact HB.out | apply below_alloc | apply pw_below_drewN | apply below_drew1) | exact HB.out)⟩⟩
    · rw [if_neg c3] at H
      have c3b0 : decide (a0 < 1) = false := decide_eq_false c3
      clear c3
      (first | rw [c3b0] | (simp only [i64_w, i32_w]; rw [c3b0]) | skip)
      have H' := Aside0.mk H
      clear H
      go_wp2
      go_meet
      case rel => exact ⟨_, (decide (a0 > 255)), (by first | rfl | (simp; done) | (simp [*]; done)), H', ⟨by first | omega | exact Nat.le_refl _⟩, ⟨by repeat (first | (with_reducible first | exact HB.out | apply below_alloc | apply pw_below_drewN | apply below_drew1) | exact HB.out)⟩⟩
  case rest =>
    clear HC2
    try clear p2
    try clear c3
    try clear c3b0
    obtain ⟨kq, x11_1, rfl, HA, HJ1, HB⟩ := hcut
    cases kq with
    | zero => exact absurd HA.out (by simp [matrix_Identity.j0])
    | succ kj1 =>
      have H := HA.out
      clear HA
      simp only [matrix_Identity.j0] at H
      by_cases c4 : x11_1 = true
      · subst c4
        have H1 : (some (([] : List (List Int)), 1)) = some (r1, r2) := by rw [if_pos rfl] at H; exact H
        clear H
        have H := H1
        clear H1
        simp only [Option.some.injEq, Prod.mk.injEq] at H
        obtain ⟨rfl, rfl⟩ := H
        go_wp2
        go_ret2
        exact ⟨_, by first | rfl | (simp [errW_none, errW_some] <;> rfl) | (simp [*, errW_none, errW_some] <;> rfl), by first | exact Kd.S_nil _ _ _ _ _ | exact Kd.N_nil _ _ _ _ _ | exact Kd.V_nil _ _ _ _ _ | exact Kd.Q_nil _ _ _ _ _ | exact Kd.R_nil _ _ _ _ _, by repeat (first | (with_reducible first | exact HB.out | apply below_alloc | apply pw_below_drewN | apply below_drew1) | exact HB.out)⟩
      · replace c4 := Bool.eq_false_iff.mpr c4
        subst c4
        have H1 : ((matrix_zeros.f kj1 a0 a0).bind fun t101 => (matrix_Identity.l0 kj1 t101 (t101.length : Int) 0)) = some (r1, r2) := by rw [if_neg (show ¬ (false = true) by decide)] at H; exact H
        clear H
        have H := H1
        clear H1
        replace H := Option.bind_eq_some_iff.mp H
        obtain ⟨t101, A50, H⟩ := H
        replace H : (matrix_Identity.l0 kj1 t101 (t101.length : Int) 0) = some (r1, r2) := H
        have A5 := Aside0.mk A50
        clear A50
        have H' := Aside0.mk H
        clear H
        go_wp2_with (first | ((with_reducible refine gate_callee (f := 94) rfl ?_); refine goesL_ (some 14) rfl rfl Try.func94 (by kernel_rfl) rfl #[.int .i64 a0, .int .i64 a0] rfl (by (try simp only [List.map_toArray, List.map_cons, List.map_nil]); first | done | rfl | (simp only [List.length_drop, List.length_take]; rfl)) ?_; (with_reducible refine (matrix_zeros.calls kj1 a0 a0 t101 _ A5.out).mono ?_); rintro e w6 ⟨v102, rfl, ho0, hb⟩; refine ⟨_, rfl, ?_⟩; have n0_ := Aside0.mk (Kd.S_lower ho0 (below_size (by repeat (first | (with_reducible first | exact HB.out | apply below_alloc | apply pw_below_drewN | apply below_drew1) | exact HB.out)))); have n1_ := Aside0.mk (below_step (by repeat (first | (with_reducible first | exact HB.out | apply below_alloc | apply pw_below_drewN | apply below_drew1) | exact HB.out)) hb); clear HB; have HO103 := n0_; have HB := n1_; clear n0_ n1_; (try clear hb); (try clear hb2); (try clear hk); (try clear hi); (try clear ho0); obtain ⟨Ao7, co7, eo7⟩ := Kd.S_slice HO103.out; subst eo7))
        go_loopg [17] kj1 (fun kq v17 w' => ∃ (x4_2 : List (List Int)) (x17_2 : Int), v17 = .int .i64 x17_2 ∧ Aside0 (matrix_Identity.l0 kq x4_2 (t101.length : Int) x17_2 = some (r1, r2)) ∧ Aside0 (kq ≤ kj1) ∧ Aside0 (Kd.S (Kd.slice 5 (Kd.int .u8)) 22 w' w.heap.size (fun _ => True) (.slice Ao7 t101.length co7) x4_2) ∧ Aside0 (Below w.heap.size w w'))
        case atStart => exact ⟨(t101), (0), (by first | rfl | (simp; done) | (simp [*]; done)), H', ⟨Nat.le_refl _⟩, ⟨by (with_reducible repeat (first | apply Kd.S_alloc | apply Kd.S_drewN | apply Kd.S_drew)); exact HO103.out⟩, ⟨by repeat (first | (with_reducible first | exact HB.out | apply below_alloc | apply pw_below_drewN | apply below_drew1) | exact HB.out)⟩⟩
        case round =>
          clear H'
          try clear p2
          try clear c3
          try clear c3b0
          try clear c4
          try clear c6
          try clear p2
          obtain ⟨x4_2, x17_2, rfl, HA, HK2, HO_4, HB⟩ := hrel
          have hl4_2 := (Kd.S_reads' HO_4.out).1
          rw [hl4_2] at HO_4
          (try simp only [hl4_2])
          cases gk with
          | zero => exact absurd HA.out (by simp [matrix_Identity.l0])
          | succ k2 =>
            have H := HA.out
            clear HA
            simp only [matrix_Identity.l0] at H
            by_cases c8 : x17_2 < (t101.length : Int)
            · rw [if_pos c8] at H
              have c8b0 : decide (x17_2 < (t101.length : Int)) = true := decide_eq_true c8
              (try simp only [hl4_2] at c8b0)
              clear c8
              by_cases c9 : 0 ≤ x17_2
              · rw [if_pos c9] at H
                have c9b0 : decide (0 ≤ x17_2) = true := decide_eq_true c9
                (try simp only [hl4_2] at c9b0)
                clear c9
                by_cases c10 : x17_2 < (x4_2.length : Int)
                · rw [if_pos c10] at H
                  have c10b0 : decide (x17_2 < (x4_2.length : Int)) = true := decide_eq_true c10
                  (try simp only [hl4_2] at c10b0)
                  clear c10
                  by_cases c11 : x17_2 < ((rd_L1 x4_2 x17_2).length : Int)
                  · rw [if_pos c11] at H
                    have c11b0 : decide (x17_2 < ((rd_L1 x4_2 x17_2).length : Int)) = true := decide_eq_true c11
                    (try simp only [hl4_2] at c11b0)
                    clear c11
                    obtain ⟨y105, hy105⟩ : ∃ y_ : List Int, y_ = ((rd_L1 x4_2 x17_2).set (x17_2 : Int).toNat 1) := ⟨_, rfl⟩
                    replace H : (matrix_Identity.l0 k2 (x4_2.set (x17_2 : Int).toNat y105) (t101.length : Int) (wrap64 (x17_2 + 1))) = some (r1, r2) := by first | (rw [hy105]; with_reducible exact H) | (have H2_ := (Option.bind_some _ _).symm.trans H; rw [hy105]; with_reducible exact H2_) | (have H2_ := (Option.bind_some _ _).symm.trans H; with_reducible exact H2_) | with_reducible exact H | (rw [hy105]; exact H) | exact H
                    have Ny105 := Aside0.mk hy105
                    clear hy105
                    obtain ⟨y107, hy107⟩ : ∃ y_ : List (List Int), y_ = (x4_2.set (x17_2 : Int).toNat y105) := ⟨_, rfl⟩
                    replace H : (matrix_Identity.l0 k2 y107 (t101.length : Int) (wrap64 (x17_2 + 1))) = some (r1, r2) := by first | (rw [hy107]; with_reducible exact H) | (have H2_ := (Option.bind_some _ _).symm.trans H; rw [hy107]; with_reducible exact H2_) | (have H2_ := (Option.bind_some _ _).symm.trans H; with_reducible exact H2_) | with_reducible exact H | (rw [hy107]; exact H) | exact H
                    have Ny107 := Aside0.mk hy107
                    clear hy107
                    have H' := Aside0.mk H
                    clear H
                    have p104 : 0 ≤ (x17_2 : Int) := of_decide_eq_true (by first | (with_reducible assumption) | assumption)
                    have q104 : x17_2 < (x4_2.length : Int) := of_decide_eq_true (by first | (with_reducible assumption) | assumption)
                    obtain ⟨ad104, A104_0, c104_0, e104, hx104_0, hl104_0, hi104_0⟩ := at_L1 (Kd.S_reads' HO_4.out).2.2 x17_2 p104 q104
                    cases e104
                    obtain ⟨ce104, hce104, hMe104, hcc104⟩ := Kd.S_get HO_4.out [] x17_2 p104 (by first | exact q104 | exact of_decide_eq_true (by first | (with_reducible assumption) | assumption) | (have e_ := (Kd.S_reads' HO_4.out).1; omega))
                    obtain ⟨ve104_0, rfl, ge104_0⟩ := hMe104
                    have hv104_0 := hcc104 0 _ rfl
                    rw [Nat.add_zero, show ((Kd.slice 5 (Kd.int .u8))).sz = 1 from rfl, Nat.mul_one] at hv104_0
                    replace hv104_0 := Option.some.inj (hv104_0.symm.trans hx104_0)
                    rw [hv104_0] at ge104_0
                    have HL104_0 := Aside0.mk (show Kd.R (Kd.int .u8) 5 _ _ _ _ (rd_L1 x4_2 x17_2) from ge104_0)
                    clear hv104_0 ge104_0
                    have HX104_0 := Aside0.mk hx104_0
                    clear hcc104 hce104
                    have HR104_0 := Aside0.mk hi104_0
                    have HC104_0 := Aside0.mk hl104_0
                    clear hi104_0 hl104_0
                    replace p104 := eq_true p104
                    replace q104 := eq_true q104
                    have p12 : 0 ≤ (x17_2 : Int) := of_decide_eq_true (by first | (with_reducible assumption) | assumption)
                    have q12 : (x17_2 : Int) < (((rd_L1 x4_2 x17_2).length : Int) : Int) := of_decide_eq_true (by first | (with_reducible assumption) | assumption)
                    obtain ⟨go12, co12, eo12, gb12, gl12, cl12, HG12⟩ := Kd.R_form HL104_0.out (by omega)
                    (first | cases eo12 | (injection eo12 with ea_ en_ ec_; (first | subst ea_ | (injection ea_ with ea_; subst ea_)); subst ec_; clear en_))
                    have GB12 := Aside0.mk gb12
                    have GG12 := Aside0.mk HG12
                    clear gb12 gl12 HG12
                    obtain ⟨hx12_0, hf12_0⟩ := Kd.R_celln 0 HL104_0.out (x17_2 : Int) p12 q12
                    replace p12 := eq_true p12
                    replace q12 := eq_true q12
                    have hq13 : (x17_2 : Int) < (x4_2.length : Int) := (by have h_ : (x17_2 : Int) < ((x4_2.length : Int) : Int) := of_decide_eq_true (by first | (with_reducible assumption) | assumption); first | exact h_ | (have e_ := (Kd.S_reads' HO_4.out).1; omega) | simpa only [List.length_set, List.length_set] using h_)
                    obtain ⟨oki13, ce13, hcl13, hM13, hcc13, hok13, hbk13⟩ := Kd.S_borrow HO_4.out [] (x17_2 : Int) (of_decide_eq_true (by first | (with_reducible assumption) | assumption)) hq13
                    obtain ⟨ve13_0, rfl, ge13_0⟩ := hM13
                    have hv13 := hcc13 0 _ rfl
                    rw [Nat.add_zero, show ((Kd.slice 5 (Kd.int .u8))).sz = 1 from rfl, Nat.mul_one] at hv13
                    replace hv13 := Option.some.inj (hv13.symm.trans HX104_0.out)
                    subst hv13
                    clear hcc13 hcl13
                    replace ge13_0 := (show Kd.R (Kd.int .u8) 5 _ _ _ _ (rd_L1 x4_2 x17_2) from ge13_0)
                    have HP13 := Kd.R_putg ge13_0 (x17_2 : Int) 1
                    go_wp2_with (first | ((with_reducible refine gate_store (t := 5) (p := 25) rfl ?_); refine store_event (t := 5) (p := 25) (v := ?vo_w14) (w1 := (wr.setCell ⟨go12, (x17_2 : Int).toNat, none⟩ (.int .u8 1))) ?hg ?ho ?hn ?hr ?_; (case ho => rfl); (case hg => rfl); (case hn => rfl); (case hr => first | (go_simp; done) | (go_simp; rfl)); intro w14 hw; have hg : wr.grownBy w14 (some go12) := (by rw [hw]; exact HP13.2); have hz_ : Kd.R (Kd.int .u8) 5 w14 w.heap.size oki13 (.slice (some ⟨go12, 0, none⟩) (rd_L1 x4_2 x17_2).length c104_0) y105 := (by rw [hw, Ny105.out]; exact HP13.1); have hp_ : Kd.S (Kd.slice 5 (Kd.int .u8)) 22 w14 w.heap.size (fun _ => True) (.slice (some ad104) x4_2.length co7) y107 := (by rw [Ny107.out]; exact hbk13 hg (fun k_ e_ => by injection e_ with e_; subst e_; exact ge13_0.1 _ rfl) (Kd.M_row hz_)); have hm_ := Kd.R_mono hz_ hok13; clear HP13 hbk13; have n0_ := Aside0.mk (hp_); have n1_ := Aside0.mk ((by rw [hw]; exact below_set (HB.out) GB12.out : Below w.heap.size w w14)); have n2_ := Aside0.mk (hm_); have n3_ := Aside0.mk ((Kd.R_reads' hm_).2.1); clear HO_4; clear HB; clear HL104_0; have HO_4 := n0_; have HB := n1_; have HL108 := n2_; have HC106 := n3_; clear n0_ n1_ n2_ n3_; clear hg hw hp_ hz_ hm_ hok13))
                    (try simp only [← hl4_2])
                    go_roundg k2
                    case measure => have := HJ1.out; have := HK2.out; omega
                    case rel => exact ⟨(y107), (wrap64 (x17_2 + 1)), (by first | rfl | (simp; done) | (simp [*]; done)), H', ⟨by have := HJ1.out; have := HK2.out; omega⟩, ⟨by (try simp only [hl4_2]); (with_reducible repeat (first | apply Kd.S_alloc | apply Kd.S_drewN | apply Kd.S_drew)); exact HO_4.out⟩, ⟨by repeat (first | (with_reducible first | exact HB.out | apply below_alloc | apply pw_below_drewN | apply below_drew1) | exact HB.out)⟩⟩
                  · rw [if_neg c11] at H
                    exact absurd H (by simp)
                · rw [if_neg c10] at H
                  exact absurd H (by simp)
              · rw [if_neg c9] at H
                exact absurd H (by simp)
            · rw [if_neg c8] at H
              have c8b0 : decide (x17_2 < (t101.length : Int)) = false := decide_eq_false c8
              (try simp only [hl4_2] at c8b0)
              clear c8
              simp only [Option.some.injEq, Prod.mk.injEq] at H
              obtain ⟨rfl, rfl⟩ := H
              go_wp2
              go_ret2
              exact ⟨_, by first | rfl | (simp [errW_none, errW_some] <;> rfl) | (simp [*, errW_none, errW_some] <;> rfl), by (with_reducible repeat (first | apply Kd.S_alloc | apply Kd.S_drewN | apply Kd.S_drew)); exact HO_4.out, by repeat (first | (with_reducible first | exact HB.out | apply below_alloc | apply pw_below_drewN | apply below_drew1) | exact HB.out)⟩

end Go.Proofs.Ytbogmlckbkogiaa.P

-- Printed by a wrapper (wip/tools/myprint.py) of the kit's print, with hand-written contracts as given leaves.
namespace Go.Proofs.Ytbogmlckbkogiaa.P
open Go.Proofs.Ytbogmlckbkogiaa.Leaf
open Go.RowKit Go.Proofs.YtbogmlckbkogiaaW.PrintWords Go.Proofs.YtbogmlckbkogiaaW.PrintLast Go.Proofs.YtbogmlckbkogiaaW.PrintMore
attribute [local go_sem] max2_int min2_int max_two min_two max_three min_three max_four min_four   -- for this text's walks alone
set_option linter.unusedVariables false
set_option linter.unusedSimpArgs false

/-! ### mooringref02_Identity: function 56 -/
def mooringref02_Identity.l0 : Nat → Int → List (List Int) → Int → Option ((List (List Int)))
  | 0, _, _, _ => none
  | k + 1, x0, x3, x4 => if x4 < x0 then (if 0 ≤ x0 then (if (x0 : Int).toNat ≤ 281474976710656 then ((some (List.replicate (x0 : Int).toNat 0 : List Int)).bind fun y104 => (if 0 ≤ x4 then (if x4 < (y104.length : Int) then (if x3.length < 5864062014805 then (mooringref02_Identity.l0 k x0 (x3 ++ [(y104.set (x4 : Int).toNat 1)]) (wrap64 (x4 + 1))) else (none)) else (none)) else (none))) else (none)) else (none)) else (some x3)
def mooringref02_Identity.f (k : Nat) (a0 : Int) : Option ((List (List Int))) := mooringref02_Identity.l0 k a0 (([] : List (List Int))) 0
theorem mooringref02_Identity.mono_l : ∀ k, (∀ y0 y1 y2, LeO (mooringref02_Identity.l0 k y0 y1 y2) (mooringref02_Identity.l0 (k + 1) y0 y1 y2))
  | 0 => fun _ _ _ r h => by simp [mooringref02_Identity.l0] at h
  | k + 1 => by
    have ih0 := mooringref02_Identity.mono_l k
    · intro y0 y1 y2
      unfold mooringref02_Identity.l0
      repeat' first
      | (with_reducible exact ih0 _ _ _)
      | (with_reducible exact LeO.refl _)
      | (with_reducible exact LeO.none _)
      | (with_reducible refine LeO.ite ?_ ?_)
      | (with_reducible refine LeO.bind ?_ (fun _ => ?_))
      | exact ih0 _ _ _
      | exact LeO.none _
      | refine LeO.ite ?_ ?_
      | refine LeO.bind ?_ (fun _ => ?_)
theorem mooringref02_Identity.mono : ∀ a0 k, LeO (mooringref02_Identity.f k a0) (mooringref02_Identity.f (k + 1) a0) := by
  intro a0 k
  have ih0 := mooringref02_Identity.mono_l k
  unfold mooringref02_Identity.f
  repeat' first
      | (with_reducible exact ih0 _ _ _)
      | (with_reducible exact LeO.refl _)
      | (with_reducible exact LeO.none _)
      | (with_reducible refine LeO.ite ?_ ?_)
      | (with_reducible refine LeO.bind ?_ (fun _ => ?_))
      | exact ih0 _ _ _
      | exact LeO.none _
      | refine LeO.ite ?_ ?_
      | refine LeO.bind ?_ (fun _ => ?_)
set_option maxHeartbeats 8000000 in
set_option maxRecDepth 100000 in
theorem mooringref02_Identity.calls (k : Nat) (a0 : Int) (r : List (List Int)) (w : World) (h : mooringref02_Identity.f k a0 = some r) :
    Calls Try.prog 56 #[.int .i64 a0] w fun e w' => ∃ v0_ : Value, e = .returned (v0_) ∧ Kd.S (Kd.slice 5 (Kd.int .u8)) 22 w' w.heap.size (fun _ => True) v0_ r ∧ Below w.heap.size w w' := by
  have HB := Aside0.mk (Below.refl w.heap.size w)
  have H : (mooringref02_Identity.l0 k a0 (([] : List (List Int))) 0) = some r := h
  clear h
  obtain ⟨y101, hy101⟩ : ∃ y_ : List (List Int), y_ = (([] : List (List Int))) := ⟨_, rfl⟩
  replace H : (mooringref02_Identity.l0 k a0 y101 0) = some r := by first | (rw [hy101]; with_reducible exact H) | (have H2_ := (Option.bind_some _ _).symm.trans H; rw [hy101]; with_reducible exact H2_) | (have H2_ := (Option.bind_some _ _).symm.trans H; with_reducible exact H2_) | with_reducible exact H | (rw [hy101]; exact H) | exact H
  have Ny101 := Aside0.mk hy101
  clear hy101
  have H' := Aside0.mk H
  clear H
  go_enter Try.func56, Try.ntmps56
  go_wp2_with (first | ((with_reducible refine gate_dst (N := 6) rfl ?_); refine Kd.S_lit (Kd.slice 5 (Kd.int .u8)) _ 22 ?hg (N := 6) ?hd (xs := ([] : List (List Int))) (inner := []) (ok := fun _ => True) (okp := fun _ => True) ?hr ?hp (fun _ hk => hk) trivial (Below.refl _ _) (Nat.le_refl _) (by simp) ?_; (case hd => rfl); (case hg => rfl); (case hr => first | (go_simp; done) | (go_simp; rfl)); (case hp => exact (Reps.none _ _)); intro v102 w2 ho3 hb hg_ hnew_; clear hg_ hnew_; (first | rw [← Ny101.out] at ho3 | (simp only [Int.reduceToNat] at ho3; rw [← Ny101.out] at ho3)); have n0_ := Aside0.mk (Kd.S_lower ho3 (below_size (by repeat (first | (with_reducible first | exact HB.out | apply below_alloc | apply pw_below_drewN | apply below_drew1) | exact HB.out)))); have n1_ := Aside0.mk (below_step (by repeat (first | (with_reducible first | exact HB.out | apply below_alloc | apply pw_below_drewN | apply below_drew1) | exact HB.out)) hb); clear HB; have HO103 := n0_; have HB := n1_; clear n0_ n1_; clear hb ho3))
  go_loopg [3, 4] k (fun kq v3 v4 w' => ∃ (x3_1 : List (List Int)) (x4_1 : Int), v4 = .int .i64 x4_1 ∧ Aside0 (mooringref02_Identity.l0 kq a0 x3_1 x4_1 = some r) ∧ Aside0 (kq ≤ k) ∧ Aside0 (Kd.S (Kd.slice 5 (Kd.int .u8)) 22 w' w.heap.size (fun _ => True) v3 x3_1) ∧ Aside0 (Below w.heap.size w w'))
  case atStart => exact ⟨(y101), (0), (by first | rfl | (simp; done) | (simp [*]; done)), H', ⟨Nat.le_refl _⟩, ⟨by (with_reducible repeat (first | apply Kd.S_alloc | apply Kd.S_drewN | apply Kd.S_drew)); exact HO103.out⟩, ⟨by repeat (first | (with_reducible first | exact HB.out | apply below_alloc | apply pw_below_drewN | apply below_drew1) | exact HB.out)⟩⟩
  case round =>
    clear H'
    try clear p2
    obtain ⟨x3_1, x4_1, rfl, HA, HK1, HO_3, HB⟩ := hrel
    cases gk with
    | zero => exact absurd HA.out (by simp [mooringref02_Identity.l0])
    | succ k1 =>
      have H := HA.out
      clear HA
      simp only [mooringref02_Identity.l0] at H
      by_cases c4 : x4_1 < a0
      · rw [if_pos c4] at H
        have c4b0 : decide (x4_1 < a0) = true := decide_eq_true c4
        clear c4
        by_cases c5 : 0 ≤ a0
        · rw [if_pos c5] at H
          have c5b0 := eq_true c5
          have c5b1 : decide (0 ≤ a0) = true := decide_eq_true c5
          clear c5
          by_cases c6 : (a0 : Int).toNat ≤ 281474976710656
          · rw [if_pos c6] at H
            have c6b0 := eq_true c6
            have c6b1 : decide ((a0 : Int).toNat ≤ 281474976710656) = true := decide_eq_true c6
            clear c6
            obtain ⟨y104, hy104⟩ : ∃ y_ : List Int, y_ = (List.replicate (a0 : Int).toNat 0) := ⟨_, rfl⟩
            replace H : (if 0 ≤ x4_1 then (if x4_1 < (y104.length : Int) then (if x3_1.length < 5864062014805 then (mooringref02_Identity.l0 k1 a0 (x3_1 ++ [(y104.set (x4_1 : Int).toNat 1)]) (wrap64 (x4_1 + 1))) else (none)) else (none)) else (none)) = some r := by first | (rw [hy104]; with_reducible exact H) | (have H2_ := (Option.bind_some _ _).symm.trans H; rw [hy104]; with_reducible exact H2_) | (have H2_ := (Option.bind_some _ _).symm.trans H; with_reducible exact H2_) | with_reducible exact H | (rw [hy104]; exact H) | exact H
            have Ny104 := Aside0.mk hy104
            clear hy104
            by_cases c7 : 0 ≤ x4_1
            · rw [if_pos c7] at H
              have c7b0 : decide (0 ≤ x4_1) = true := decide_eq_true c7
              clear c7
              by_cases c8 : x4_1 < (y104.length : Int)
              · rw [if_pos c8] at H
                have c8b0 : decide (x4_1 < (y104.length : Int)) = true := decide_eq_true c8
                clear c8
                obtain ⟨y107, hy107⟩ : ∃ y_ : List Int, y_ = (y104.set (x4_1 : Int).toNat 1) := ⟨_, rfl⟩
                replace H : (if x3_1.length < 5864062014805 then (mooringref02_Identity.l0 k1 a0 (x3_1 ++ [y107]) (wrap64 (x4_1 + 1))) else (none)) = some r := by first | (rw [hy107]; with_reducible exact H) | (have H2_ := (Option.bind_some _ _).symm.trans H; rw [hy107]; with_reducible exact H2_) | (have H2_ := (Option.bind_some _ _).symm.trans H; with_reducible exact H2_) | with_reducible exact H | (rw [hy107]; exact H) | exact H
                have Ny107 := Aside0.mk hy107
                clear hy107
                by_cases c10 : x3_1.length < 5864062014805
                · rw [if_pos c10] at H
                  have LMc10 := Aside0.mk c10
                  clear c10
                  obtain ⟨y108, hy108⟩ : ∃ y_ : List (List Int), y_ = (x3_1 ++ [y107]) := ⟨_, rfl⟩
                  replace H : (mooringref02_Identity.l0 k1 a0 y108 (wrap64 (x4_1 + 1))) = some r := by first | (rw [hy108]; with_reducible exact H) | (have H2_ := (Option.bind_some _ _).symm.trans H; rw [hy108]; with_reducible exact H2_) | (have H2_ := (Option.bind_some _ _).symm.trans H; with_reducible exact H2_) | with_reducible exact H | (rw [hy108]; exact H) | exact H
                  have Ny108 := Aside0.mk hy108
                  clear hy108
                  have H' := Aside0.mk H
                  clear H
                  go_wp2_with (first | ((with_reducible refine gate_dst (N := 13) rfl ?_); refine Kd.R_make (Kd.int .u8) _ 5 rfl (N := 13) rfl 22 _ _ rfl a0 rfl rfl Try.underlying22 (.int .u8 0) 1 info5 rfl (by decide) (by omega) 0 (ok := fun _ => True) (okp := fun _ => True) rfl (fun _ hk => hk) trivial (of_decide_eq_true (by first | (with_reducible assumption) | assumption)) (Nat.le_trans (Nat.mul_le_mul_right _ (of_decide_eq_true (by first | (with_reducible assumption) | assumption) : a0.toNat ≤ 281474976710656)) (by omega)) (Below.refl _ _) (Nat.le_refl _) ?_; intro v105 w11 ho12 hb hg_ hnew_; clear hg_ hnew_; (first | rw [← Ny104.out] at ho12 | (simp only [Int.reduceToNat] at ho12; rw [← Ny104.out] at ho12)); have n0_ := Aside0.mk (Kd.S_elder' (by (with_reducible repeat (first | apply Kd.S_alloc | apply Kd.S_drewN | apply Kd.S_drew)); exact HO_3.out) (Kd.R_base ho12) hb); have n1_ := Aside0.mk (Kd.R_lower ho12 (below_size (by repeat (first | (with_reducible first | exact HB.out | apply below_alloc | apply pw_below_drewN | apply below_drew1) | exact HB.out)))); have n2_ := Aside0.mk (below_step (by repeat (first | (with_reducible first | exact HB.out | apply below_alloc | apply pw_below_drewN | apply below_drew1) | exact HB.out)) hb); clear HO_3; clear HB; have HO_3 := n0_; have HO106 := n1_; have HB := n2_; clear n0_ n1_ n2_; clear hb ho12; have p9 : 0 ≤ (x4_1 : Int) := of_decide_eq_true (by first | (with_reducible assumption) | assumption); have q9 : (x4_1 : Int) < ((y104.length : Int) : Int) := of_decide_eq_true (by first | (with_reducible assumption) | assumption); obtain ⟨go9, co9, eo9, gb9, gl9, cl9, HG9⟩ := Kd.R_form HO106.out (by omega); (first | cases eo9 | (injection eo9 with ea_ en_ ec_; (first | subst ea_ | (injection ea_ with ea_; subst ea_)); subst ec_; clear en_)); have GB9 := Aside0.mk gb9; have GG9 := Aside0.mk HG9; clear gb9 gl9 HG9; obtain ⟨hx9_0, hf9_0⟩ := Kd.R_celln 0 HO106.out (x4_1 : Int) p9 q9; replace p9 := eq_true p9; replace q9 := eq_true q9; obtain ⟨hy13_, hz13_⟩ := Kd.R_celln 0 HO106.out (x4_1 : Int) (of_decide_eq_true (by first | (with_reducible assumption) | assumption)) (of_decide_eq_true (by first | (with_reducible assumption) | assumption)); have HP13 := Kd.R_putg HO106.out (x4_1 : Int) 1) | ((with_reducible refine gate_store (t := 5) (p := 16) rfl ?_); refine store_event (t := 5) (p := 16) (v := ?vo_w14) (w1 := (w11.setCell ⟨go9, (x4_1 : Int).toNat, none⟩ (.int .u8 1))) ?hg ?ho ?hn ?hr ?_; (case ho => rfl); (case hg => rfl); (case hn => rfl); (case hr => first | (go_simp; done) | (go_simp; rfl)); intro w14 hw; have hg : w11.grownBy w14 (some go9) := (by rw [hw]; exact HP13.2); have hp_ : Kd.R (Kd.int .u8) 5 w14 w.heap.size (fun _ => True) (.slice (some ⟨go9, 0, none⟩) y104.length co9) y107 := (by rw [hw, Ny107.out]; exact HP13.1); clear HP13; have n0_ := Aside0.mk (Kd.S_after (v := (.slice (some ⟨go9, 0, none⟩) y104.length co9)) (v1 := (.slice (some ⟨go9, 0, none⟩) y104.length co9)) (ok := (fun _ => True)) (by (with_reducible repeat (first | apply Kd.S_alloc | apply Kd.S_drewN | apply Kd.S_drew)); exact HO_3.out) hg (.inl rfl)); have n1_ := Aside0.mk (hp_); have n2_ := Aside0.mk ((by rw [hw]; exact below_set (HB.out) GB9.out : Below w.heap.size w w14)); clear HO_3; clear HO106; clear HB; have HO_3 := n0_; have HO106 := n1_; have HB := n2_; clear n0_ n1_ n2_; clear hg hw hp_) | ((with_reducible refine gate_builtin (b := .append) (xs := #[.tmp 17, .tmp 19]) rfl ?_); at_builtin; refine Kd.S_append (Kd.slice 5 (Kd.int .u8)) (w0 := w) w.heap.size rfl (.tmp 17) (.tmp 19) 51 22 (.slice none 0 0) 24 rfl Try.underlying51 info22 rfl (by decide) (by omega) u3 x3_1 y107 [.slice (some ⟨go9, 0, none⟩) y104.length co9] (fun _ => True) (fun k_ => some k_ = (.slice (some ⟨go9, 0, none⟩) y104.length co9 : Value).ownBlock) rfl rfl ?aP (fun k_ hk_ => ((Kd.R_mono (ok' := fun k_ => ((fun _ => True)) k_ ∧ some k_ ≠ (u3 : Value).ownBlock) (Kd.R_apart' (HO106.out) (Kd.S_typed HO_3.out) (by decide)) (fun k_ hk => ⟨trivial, hk.2⟩))).1 k_ hk_.symm) ?aF ?aO ?aB ?aS ?aL ?_; (case aP => exact Kd.M_row (Kd.R_mono (Kd.R_tight rfl (Kd.R_mono (ok' := fun k_ => ((fun _ => True)) k_ ∧ some k_ ≠ (u3 : Value).ownBlock) (Kd.R_apart' (HO106.out) (Kd.S_typed HO_3.out) (by decide)) (fun k_ hk => ⟨trivial, hk.2⟩))) (fun _ h_ => h_))); (case aB => exact (by repeat (first | (with_reducible first | exact HB.out | apply below_alloc | apply pw_below_drewN | apply below_drew1) | exact HB.out))); (case aF => exact (fun _ _ => trivial)); (case aO => exact (by (with_reducible repeat (first | apply Kd.S_alloc | apply Kd.S_drewN | apply Kd.S_drew)); exact Kd.S_mono HO_3.out (fun k_ hk => ⟨trivial, fun e_ => hk.2 e_⟩))); (case aS => exact (below_size (by repeat (first | (with_reducible first | exact HB.out | apply below_alloc | apply pw_below_drewN | apply below_drew1) | exact HB.out)))); (case aL => have := LMc10.out; omega); intro v109 w15 ho hb hg hat; rw [← Ny108.out] at ho; have n0_ := Aside0.mk (hb); have n1_ := Aside0.mk (ho); clear HB; clear HO_3; clear HO106; have HB := n0_; have HO110 := n1_; clear n0_ n1_; clear ho hb hg hat))
                  go_roundg k1
                  case measure => have := HK1.out; omega
                  case rel => exact ⟨(y108), (wrap64 (x4_1 + 1)), (by first | rfl | (simp; done) | (simp [*]; done)), H', ⟨by have := HK1.out; omega⟩, ⟨by (with_reducible repeat (first | apply Kd.S_alloc | apply Kd.S_drewN | apply Kd.S_drew)); exact HO110.out⟩, ⟨by repeat (first | (with_reducible first | exact HB.out | apply below_alloc | apply pw_below_drewN | apply below_drew1) | exact HB.out)⟩⟩
                · rw [if_neg c10] at H
                  exact absurd H (by simp)
              · rw [if_neg c8] at H
                exact absurd H (by simp)
            · rw [if_neg c7] at H
              exact absurd H (by simp)
          · rw [if_neg c6] at H
            exact absurd H (by simp)
        · rw [if_neg c5] at H
          exact absurd H (by simp)
      · rw [if_neg c4] at H
        have c4b0 : decide (x4_1 < a0) = false := decide_eq_false c4
        clear c4
        obtain rfl := Option.some.inj H
        go_wp2
        go_ret
        exact ⟨_, by first | rfl | (simp [errW_none, errW_some] <;> rfl) | (simp [*, errW_none, errW_some] <;> rfl), by (with_reducible repeat (first | apply Kd.S_alloc | apply Kd.S_drewN | apply Kd.S_drew)); exact HO_3.out, by repeat (first | (with_reducible first | exact HB.out | apply below_alloc | apply pw_below_drewN | apply below_drew1) | exact HB.out)⟩

end Go.Proofs.Ytbogmlckbkogiaa.P

/- Matrices of bytes as the program's rows; zeros and the identities. Conditions: told at each. -/
namespace Go.Proofs.Ytbogmlckbkogiaa.Red
open Go.RowKit Go.Proofs.YtbogmlckbkogiaaW.PrintWords Go.Proofs.Ytbogmlckbkogiaa.Leaf Go.Proofs.Ytbogmlckbkogiaa.Gf Go.Proofs.Ytbogmlckbkogiaa.H Go.Proofs.Ytbogmlckbkogiaa.Mx Go.Proofs.Ytbogmlckbkogiaa.P
set_option linter.unusedVariables false
set_option linter.unusedSimpArgs false
def oM (A : Mat) : List (List Int) := A.map ofL
theorem oM_length (A : Mat) : (oM A).length = A.length := List.length_map _
theorem rd_oM (A : Mat) (i : Nat) : rd_L1 (oM A) (i : Int) = ofL (row A i) := map_getD A i
theorem rd_oM0 (A : Mat) : rd_L1 (oM A) 0 = ofL (row A 0) := map_getD A 0
theorem oM_inj {A C : Mat} (h : oM A = oM C) : A = C := by
  have hl : A.length = C.length := by rw [← oM_length A, h, oM_length]
  refine List.ext_getElem hl fun i h1 h2 => ?_
  have h3 : (oM A)[i]? = (oM C)[i]? := by rw [h]
  unfold oM at h3
  rw [List.getElem?_map, List.getElem?_map, List.getElem?_eq_getElem h1, List.getElem?_eq_getElem h2] at h3
  exact ofL_inj (Option.some.inj h3)
theorem oM_set (A : Mat) (i : Nat) (r : List B) : (oM A).set i (ofL r) = oM (A.set i r) := map_set A i r
theorem oM_append (A C : Mat) : oM A ++ oM C = oM (A ++ C) := by unfold oM; rw [List.map_append]
theorem oM_one (r : List B) : [ofL r] = oM [r] := rfl
/-! ### zeros, Identity, own -/
def zeroM (n m : Nat) : Mat := List.replicate n (List.replicate m 0#8)
theorem zeroM_reg (n m : Nat) : Reg (zeroM n m) n m := by
  refine ⟨List.length_replicate .., fun i hi => ?_⟩
  unfold row zeroM
  rw [List.getD_eq_getElem?_getD, List.getElem?_replicate, if_pos hi]
  simp
theorem el_zeroM {n m i j : Nat} (hi : i < n) (hj : j < m) : el (zeroM n m) i j = 0#8 := by
  unfold el row zeroM at0
  rw [List.getD_eq_getElem?_getD (l := List.replicate n _), List.getElem?_replicate, if_pos hi]
  rw [Option.getD_some, List.getD_eq_getElem?_getD, List.getElem?_replicate, if_pos hj]
  rfl
theorem zeros_l0 (n m : Nat) (hm : m ≤ 281474976710656) (hn : n < 2 ^ 62) (d : Nat) : ∀ (i : Nat) (X : List (List Int)), i + d = n → X.length = n → (∀ j, j < i → X.getD j [] = List.replicate m 0) → Ev (fun k => matrix_zeros.l0 k (m : Int) X (n : Int) (i : Int)) (List.replicate n (List.replicate m 0)) := by
  induction d with
  | zero =>
    intro i X hi hl h
    refine Ev.step (f := fun _ => some X) (fun k => ?_) ?_
    · simp only [matrix_zeros.l0]
      rw [if_neg (by omega)]
    · rw [show List.replicate n (List.replicate m (0 : Int)) = X from List.ext_getElem (by rw [List.length_replicate, hl]) fun j h1 h2 => by
        have h3 := h j (by omega)
        rw [List.getD_eq_getElem?_getD, List.getElem?_eq_getElem h2] at h3
        rw [List.getElem_replicate]
        exact h3.symm]
      exact Ev.now _
  | succ d ih =>
    intro i X hi hl h
    refine Ev.step (f := fun k => matrix_zeros.l0 k (m : Int) (X.set i (List.replicate m 0)) (n : Int) ((i + 1 : Nat) : Int)) (fun k => ?_) (ih (i + 1) _ (by omega) (by rw [List.length_set]; exact hl) (fun j hj => ?_))
    · simp only [matrix_zeros.l0, hl, Int.toNat_natCast]
      rw [if_pos (by omega), if_pos (by omega), if_pos hm, if_pos (by omega), if_pos (by omega), w64 _ (by omega) (by omega)]
      rfl
    · simp only [List.getD_eq_getElem?_getD, List.getElem?_set]
      by_cases e : i = j
      · subst e; rw [if_pos rfl, if_pos (by omega)]; rfl
      · rw [if_neg e]
        have := h j (by omega)
        rwa [List.getD_eq_getElem?_getD] at this
theorem evZeros (n m : Nat) (hm : m ≤ 281474976710656) (hn : n ≤ 11728124029610) : Ev (fun k => matrix_zeros.f k (n : Int) (m : Int)) (oM (zeroM n m)) := by
  unfold matrix_zeros.f
  simp only [show ((0 : Int) ≤ (n : Int)) = True from eq_true (by omega), if_true, Int.toNat_natCast, show (n ≤ 11728124029610) = True from eq_true hn, Option.bind_some, List.length_replicate]
  have e : oM (zeroM n m) = List.replicate n (List.replicate m 0) := by unfold oM zeroM; rw [List.map_replicate, ofL_replicate]
  rw [e]
  exact zeros_l0 n m hm (by omega) n 0 _ (by omega) (List.length_replicate ..) (fun j hj => by omega)
theorem set_one (r : List B) (i : Nat) : (ofL r).set i 1 = ofL (r.set i 1#8) := by rw [← ofB_one, ofL_set]
/-- The identity's rows, the first i of them done. -/
theorem id_l0 (n : Nat) (hn : n ≤ 255) (d : Nat) : ∀ i : Nat, i + d = n → Ev (fun k => matrix_Identity.l0 k (oM (matF n n (fun a b => if a < i then I a b else 0#8))) (n : Int) (i : Int)) (oM (idM n), 0) := by
  induction d with
  | zero =>
    intro i hi
    refine Ev.step (f := fun _ => some (oM (idM n), 0)) (fun k => ?_) (Ev.now _)
    simp only [matrix_Identity.l0]
    rw [if_neg (by omega), idM_eq, mat_ext (matF_reg n n _) (matF_reg n n I) (fun a b ha hb => by rw [el_matF _ ha hb, el_matF _ ha hb, if_pos (by omega)])]
  | succ d ih =>
    intro i hi
    have hr := (matF_reg n n (fun a b => if a < i then I a b else 0#8))
    have e : (matF n n (fun a b => if a < i then I a b else 0#8)).set i ((row (matF n n (fun a b => if a < i then I a b else 0#8)) i).set i 1#8) = matF n n (fun a b => if a < i + 1 then I a b else 0#8) := by
      refine mat_ext (hr.set (by omega) (by rw [List.length_set]; exact hr.2 i (by omega))) (matF_reg n n _) (fun a b ha hb => ?_)
      unfold el
      rw [row_set _ _ _ _ (by rw [hr.1]; omega)]
      show _ = el (matF n n _) a b
      rw [el_matF _ ha hb]
      by_cases e : a = i
      · subst e
        rw [if_pos rfl, at0_set _ _ _ _ (by rw [hr.2 a ha]; exact ha)]
        by_cases e2 : a = b
        · rw [if_pos e2, if_pos (by omega)]; unfold I; rw [if_pos e2]
        · rw [if_neg e2]
          show el (matF n n _) a b = _
          rw [el_matF _ ha hb, if_neg (by omega), if_pos (by omega)]
          unfold I; rw [if_neg e2]
      · rw [if_neg e]
        show el (matF n n _) a b = _
        rw [el_matF _ ha hb]
        by_cases e2 : a < i
        · rw [if_pos e2, if_pos (by omega)]
        · rw [if_neg e2, if_neg (by omega)]
    refine Ev.step (f := fun k => matrix_Identity.l0 k (oM (matF n n (fun a b => if a < i + 1 then I a b else 0#8))) (n : Int) ((i + 1 : Nat) : Int)) (fun k => ?_) (ih (i + 1) (by omega))
    simp only [matrix_Identity.l0, oM_length, rd_oM, ofL_length, hr.1, hr.2 i (by omega), Int.toNat_natCast]
    rw [if_pos (by omega), if_pos (by omega), if_pos (by omega), if_pos (by omega), set_one, oM_set, e, w64 _ (by omega) (by omega)]
    rfl
def idR (n : Int) : List (List Int) × Int := if 1 ≤ n ∧ n ≤ 255 then (oM (idM n.toNat), 0) else ([], 1)
theorem evIdentity (n : Int) : Ev (fun k => matrix_Identity.f k n) (idR n) := by
  unfold matrix_Identity.f idR
  have j1 : Ev (fun k => matrix_Identity.j0 k n true) ([], 1) := Ev.step (f := fun _ => some ([], 1)) (fun k => by simp only [matrix_Identity.j0, if_true]) (Ev.now _)
  by_cases h1 : n < 1
  · simp only [show (n < 1) = True from eq_true h1, if_true]
    rw [if_neg (by omega)]
    exact j1
  · simp only [show (n < 1) = False from eq_false h1, if_false]
    by_cases h2 : n > 255
    · simp only [show decide (n > 255) = true from decide_eq_true h2]
      rw [if_neg (by omega)]
      exact j1
    · simp only [show decide (n > 255) = false from decide_eq_false h2]
      rw [if_pos (by omega)]
      obtain ⟨m, rfl⟩ := Int.eq_ofNat_of_zero_le (show 0 ≤ n by omega)
      rw [Int.toNat_natCast]
      have hz : zeroM m m = matF m m (fun a b => if a < 0 then I a b else 0#8) := mat_ext (zeroM_reg m m) (matF_reg m m _) fun a b ha hb => by rw [el_zeroM ha hb, el_matF _ ha hb, if_neg (by omega)]
      refine Ev.step (f := fun k => (matrix_zeros.f k (m : Int) (m : Int)).bind fun t101 => matrix_Identity.l0 k t101 (t101.length : Int) 0) (fun k => by simp only [matrix_Identity.j0, Bool.false_eq_true, if_false]) ?_
      refine Ev.bind (evZeros m m (by omega) (by omega)) ?_
      rw [oM_length, (zeroM_reg m m).1, hz]
      exact id_l0 m (by omega) m 0 (by omega)
theorem refId_l0 (n : Nat) (hn : n ≤ 281474976710656) (hn2 : n < 5864062014805) (d : Nat) : ∀ i : Nat, i + d = n → Ev (fun k => mooringref02_Identity.l0 k (n : Int) (oM (matF i n I)) (i : Int)) (oM (idM n)) := by
  induction d with
  | zero =>
    intro i hi
    obtain rfl : i = n := by omega
    refine Ev.step (f := fun _ => some (oM (matF i i I))) (fun k => ?_) (Ev.now _)
    simp only [mooringref02_Identity.l0]
    rw [if_neg (by omega)]
  | succ d ih =>
    intro i hi
    refine Ev.step (f := fun k => mooringref02_Identity.l0 k (n : Int) (oM (matF (i + 1) n I)) ((i + 1 : Nat) : Int)) (fun k => ?_) (ih (i + 1) (by omega))
    simp only [mooringref02_Identity.l0, Int.toNat_natCast, Option.bind_some, List.length_replicate, oM_length, (matF_reg i n I).1]
    have e : (List.replicate n (0 : Int)).set i 1 = ofL ((List.range n).map (I i)) := by
      rw [ofL_replicate, ← ofB_one, ofL_set]
      congr 1
      refine ext0 (by simp) fun j hj => ?_
      simp only [List.length_set, List.length_replicate] at hj
      rw [at0_set _ _ _ _ (by rw [List.length_replicate]; omega), at0_map _ _ _ hj]
      unfold I
      by_cases e : i = j
      · rw [if_pos e, if_pos e]
      · rw [if_neg e, if_neg e]
        unfold at0
        simp [List.getD_eq_getElem?_getD, hj]
    rw [if_pos (by omega), if_pos (by omega), if_pos hn, if_pos (by omega), if_pos (by omega), if_pos (by omega), e, oM_one, oM_append, w64 _ (by omega) (by omega)]
    have e2 : matF i n I ++ [(List.range n).map (I i)] = matF (i + 1) n I := by unfold matF; rw [List.range_succ, List.map_append]; rfl
    rw [e2]
    rfl
theorem evRefIdentity (n : Nat) (hn : n < 5864062014805) : Ev (fun k => mooringref02_Identity.f k (n : Int)) (oM (idM n)) := by
  unfold mooringref02_Identity.f
  exact refId_l0 n (by omega) hn n 0 (by omega)
theorem evRefIdentity_neg (n : Int) (hn : n ≤ 0) : Ev (fun k => mooringref02_Identity.f k n) [] := by
  unfold mooringref02_Identity.f
  refine Ev.step (f := fun _ => some []) (fun k => ?_) (Ev.now _)
  simp only [mooringref02_Identity.l0]
  rw [if_neg (by omega)]

theorem uneven {A : Mat} (h : ¬ ∀ j, j < A.length → (row A j).length = (row A 0).length) : ∃ j, j < A.length ∧ (row A j).length ≠ (row A 0).length := by
  apply Classical.byContradiction
  intro hn
  exact h fun j hj => Classical.byContradiction fun he => hn ⟨j, hj, he⟩

end Go.Proofs.Ytbogmlckbkogiaa.Red

-- Printed by a wrapper (wip/tools/myprint.py) of the kit's print, with hand-written contracts as given leaves.
namespace Go.Proofs.Ytbogmlckbkogiaa.P
open Go.Proofs.Ytbogmlckbkogiaa.Leaf
open Go.RowKit Go.Proofs.YtbogmlckbkogiaaW.PrintWords Go.Proofs.YtbogmlckbkogiaaW.PrintLast Go.Proofs.YtbogmlckbkogiaaW.PrintMore
attribute [local go_sem] max2_int min2_int max_two min_two max_three min_three max_four min_four   -- for this text's walks alone
set_option linter.unusedVariables false
set_option linter.unusedSimpArgs false

/-! ### matrix_own: function 91 -/
def matrix_own.l0 : Nat → List (List Int) → List (List Int) → Int → Int → Option ((List (List Int)))
  | 0, _, _, _, _ => none
  | k + 1, x3, x9, x10, x11 => if x11 < x10 then (if 0 ≤ x11 then (if x11 < (x9.length : Int) then ((slices_Clone_byte_byte.f (rd_L1 x9 x11)).bind fun t105 => (if x11 < (x3.length : Int) then (matrix_own.l0 k (x3.set (x11 : Int).toNat t105) x9 x10 (wrap64 (x11 + 1))) else (none))) else (none)) else (none)) else (some x3)
def matrix_own.f (k : Nat) (l0 : List (List Int)) : Option ((List (List Int))) := if 0 ≤ (l0.length : Int) then (if ((l0.length : Int) : Int).toNat ≤ 11728124029610 then (matrix_own.l0 k (List.replicate ((l0.length : Int) : Int).toNat []) l0 (l0.length : Int) 0) else (none)) else (none)
theorem matrix_own.mono_l : ∀ k, (∀ y0 y1 y2 y3, LeO (matrix_own.l0 k y0 y1 y2 y3) (matrix_own.l0 (k + 1) y0 y1 y2 y3))
  | 0 => fun _ _ _ _ r h => by simp [matrix_own.l0] at h
  | k + 1 => by
    have ih0 := matrix_own.mono_l k
    · intro y0 y1 y2 y3
      unfold matrix_own.l0
      repeat' first
      | (with_reducible exact ih0 _ _ _ _)
      | (with_reducible exact LeO.refl _)
      | (with_reducible exact LeO.none _)
      | (with_reducible refine LeO.ite ?_ ?_)
      | (with_reducible refine LeO.bind ?_ (fun _ => ?_))
      | exact ih0 _ _ _ _
      | exact LeO.none _
      | refine LeO.ite ?_ ?_
      | refine LeO.bind ?_ (fun _ => ?_)
theorem matrix_own.mono : ∀ a0 k, LeO (matrix_own.f k a0) (matrix_own.f (k + 1) a0) := by
  intro a0 k
  have ih0 := matrix_own.mono_l k
  unfold matrix_own.f
  repeat' first
      | (with_reducible exact ih0 _ _ _ _)
      | (with_reducible exact LeO.refl _)
      | (with_reducible exact LeO.none _)
      | (with_reducible refine LeO.ite ?_ ?_)
      | (with_reducible refine LeO.bind ?_ (fun _ => ?_))
      | exact ih0 _ _ _ _
      | exact LeO.none _
      | refine LeO.ite ?_ ?_
      | refine LeO.bind ?_ (fun _ => ?_)
set_option maxHeartbeats 8000000 in
set_option maxRecDepth 100000 in
theorem matrix_own.calls (k : Nat) (A0 : Option Addr) (c0 : Nat) (l0 : List (List Int)) (r : List (List Int)) (w : World) (hr0 : Kd.C (Kd.slice 5 (Kd.int .u8)) w A0 l0.length l0) (hc0 : l0.length ≤ c0) (h : matrix_own.f k l0 = some r) :
    Calls Try.prog 91 #[.slice A0 l0.length c0] w fun e w' => ∃ v0_ : Value, e = .returned (v0_) ∧ Kd.S (Kd.slice 5 (Kd.int .u8)) 22 w' w.heap.size (fun _ => True) v0_ r ∧ Below w.heap.size w w' := by
  have HR0 := Aside0.mk hr0
  have HC0 := Aside0.mk hc0
  clear hr0 hc0
  have HB := Aside0.mk (Below.refl w.heap.size w)
  have H : (if 0 ≤ (l0.length : Int) then (if ((l0.length : Int) : Int).toNat ≤ 11728124029610 then (matrix_own.l0 k (List.replicate ((l0.length : Int) : Int).toNat []) l0 (l0.length : Int) 0) else (none)) else (none)) = some r := h
  clear h
  by_cases c2 : 0 ≤ (l0.length : Int)
  · rw [if_pos c2] at H
    have c2b0 := eq_true c2
    have c2b1 : decide (0 ≤ (l0.length : Int)) = true := decide_eq_true c2
    clear c2
    by_cases c3 : ((l0.length : Int) : Int).toNat ≤ 11728124029610
    · rw [if_pos c3] at H
      have c3b0 := eq_true c3
      have c3b1 : decide (((l0.length : Int) : Int).toNat ≤ 11728124029610) = true := decide_eq_true c3
      clear c3
      obtain ⟨y101, hy101⟩ : ∃ y_ : List (List Int), y_ = (List.replicate ((l0.length : Int) : Int).toNat []) := ⟨_, rfl⟩
      replace H : (matrix_own.l0 k y101 l0 (l0.length : Int) 0) = some r := by first | (rw [hy101]; with_reducible exact H) | (have H2_ := (Option.bind_some _ _).symm.trans H; rw [hy101]; with_reducible exact H2_) | (have H2_ := (Option.bind_some _ _).symm.trans H; with_reducible exact H2_) | with_reducible exact H | (rw [hy101]; exact H) | exact H
      have Ny101 := Aside0.mk hy101
      clear hy101
      have H' := Aside0.mk H
      clear H
      go_enter Try.func91, Try.ntmps91
      go_wp2_with (first | ((with_reducible refine gate_dst (N := 8) rfl ?_); refine Kd.S_make (Kd.slice 5 (Kd.int .u8)) _ 22 rfl (N := 8) rfl 51 _ _ rfl (l0.length : Int) rfl rfl Try.underlying51 (.slice none 0 0) 24 info22 rfl (by decide) (by omega) [] (ok := fun _ => True) (okp := fun _ => True) ⟨_, rfl, Kd.R_nil _ _ _ _ _⟩ (fun _ hk => hk) trivial (of_decide_eq_true (by first | (with_reducible assumption) | assumption)) (Nat.le_trans (Nat.mul_le_mul_right _ (of_decide_eq_true (by first | (with_reducible assumption) | assumption) : (l0.length : Int).toNat ≤ 11728124029610)) (by omega)) (Below.refl _ _) (Nat.le_refl _) ?_; intro v102 w4 ho5 hb hg_ hnew_; clear hg_ hnew_; (first | rw [← Ny101.out] at ho5 | (simp only [Int.reduceToNat] at ho5; rw [← Ny101.out] at ho5)); have n0_ := Aside0.mk (Kd.S_lower ho5 (below_size (by repeat (first | (with_reducible first | exact HB.out | apply below_alloc | apply pw_below_drewN | apply below_drew1) | exact HB.out)))); have n1_ := Aside0.mk (below_step (by repeat (first | (with_reducible first | exact HB.out | apply below_alloc | apply pw_below_drewN | apply below_drew1) | exact HB.out)) hb); clear HB; have HO103 := n0_; have HB := n1_; clear n0_ n1_; clear hb ho5))
      go_loopg [11] k (fun kq v11 w' => ∃ (x3_1 : List (List Int)) (x11_1 : Int), v11 = .int .i64 x11_1 ∧ Aside0 (matrix_own.l0 kq x3_1 l0 (l0.length : Int) x11_1 = some r) ∧ Aside0 (kq ≤ k) ∧ Aside0 (Kd.S (Kd.slice 5 (Kd.int .u8)) 22 w' w.heap.size (fun _ => True) v102 x3_1) ∧ Aside0 (Below w.heap.size w w'))
      case atStart => exact ⟨(y101), (0), (by first | rfl | (simp; done) | (simp [*]; done)), H', ⟨Nat.le_refl _⟩, ⟨by (with_reducible repeat (first | apply Kd.S_alloc | apply Kd.S_drewN | apply Kd.S_drew)); exact HO103.out⟩, ⟨by repeat (first | (with_reducible first | exact HB.out | apply below_alloc | apply pw_below_drewN | apply below_drew1) | exact HB.out)⟩⟩
      case round =>
        clear H'
        try clear c2
        try clear c2b0
        try clear c2b1
        try clear p2
        try clear c3
        try clear c3b0
        try clear c3b1
        obtain ⟨x3_1, x11_1, rfl, HA, HK1, HO_3, HB⟩ := hrel
        cases gk with
        | zero => exact absurd HA.out (by simp [matrix_own.l0])
        | succ k1 =>
          have H := HA.out
          clear HA
          simp only [matrix_own.l0] at H
          by_cases c6 : x11_1 < (l0.length : Int)
          · rw [if_pos c6] at H
            have c6b0 : decide (x11_1 < (l0.length : Int)) = true := decide_eq_true c6
            clear c6
            by_cases c7 : 0 ≤ x11_1
            · rw [if_pos c7] at H
              have c7b0 : decide (0 ≤ x11_1) = true := decide_eq_true c7
              clear c7
              by_cases c8 : x11_1 < (l0.length : Int)
              · rw [if_pos c8] at H
                have c8b0 : decide (x11_1 < (l0.length : Int)) = true := decide_eq_true c8
                clear c8
                replace H := Option.bind_eq_some_iff.mp H
                obtain ⟨t105, A90, H⟩ := H
                replace H : (if x11_1 < (x3_1.length : Int) then (matrix_own.l0 k1 (x3_1.set (x11_1 : Int).toNat t105) l0 (l0.length : Int) (wrap64 (x11_1 + 1))) else (none)) = some r := H
                have A9 := Aside0.mk A90
                clear A90
                by_cases c10 : x11_1 < (x3_1.length : Int)
                · rw [if_pos c10] at H
                  have c10b0 : decide (x11_1 < (x3_1.length : Int)) = true := decide_eq_true c10
                  clear c10
                  obtain ⟨y108, hy108⟩ : ∃ y_ : List (List Int), y_ = (x3_1.set (x11_1 : Int).toNat t105) := ⟨_, rfl⟩
                  replace H : (matrix_own.l0 k1 y108 l0 (l0.length : Int) (wrap64 (x11_1 + 1))) = some r := by first | (rw [hy108]; with_reducible exact H) | (have H2_ := (Option.bind_some _ _).symm.trans H; rw [hy108]; with_reducible exact H2_) | (have H2_ := (Option.bind_some _ _).symm.trans H; with_reducible exact H2_) | with_reducible exact H | (rw [hy108]; exact H) | exact H
                  have Ny108 := Aside0.mk hy108
                  clear hy108
                  have H' := Aside0.mk H
                  clear H
                  have p104 : 0 ≤ (x11_1 : Int) := of_decide_eq_true (by first | (with_reducible assumption) | assumption)
                  have q104 : x11_1 < (l0.length : Int) := of_decide_eq_true (by first | (with_reducible assumption) | assumption)
                  obtain ⟨ad104, A104_0, c104_0, e104, hx104_0, hl104_0, hi104_0⟩ := at_L1 HR0.out x11_1 p104 q104
                  cases e104
                  replace hx104_0 := (HB.out.cell (World.block_lt_of_cell? w _ hx104_0)).trans hx104_0
                  have HR104_0 := Aside0.mk hi104_0
                  have HC104_0 := Aside0.mk hl104_0
                  clear hi104_0 hl104_0
                  replace p104 := eq_true p104
                  replace q104 := eq_true q104
                  go_wp2_with (first | ((with_reducible refine gate_callee (f := 89) rfl ?_); refine goesL_ (some 19) rfl rfl Try.func89 (by kernel_rfl) rfl #[.slice A104_0 (rd_L1 l0 x11_1).length c104_0] rfl (by (try simp only [List.map_toArray, List.map_cons, List.map_nil]); first | done | rfl | (simp only [List.length_drop, List.length_take]; rfl)) ?_; (with_reducible refine (slices_Clone_byte_byte.calls _ _ (rd_L1 l0 x11_1) t105 _ ?side1 ?side2 A9.out).mono ?_); (case side1 => repeat (first | exact (Kd.C_below HR104_0.out HB.out) | (with_reducible refine Kd.C_alloc ?_ _) | (with_reducible refine Kd.C_drewN ?_ _) | (with_reducible refine Kd.C_drew ?_))); (case side2 => exact HC104_0.out); rintro e w12 ⟨v106, rfl, ho0, hb⟩; refine ⟨_, rfl, ?_⟩; have n0_ := Aside0.mk (Kd.S_elder' (by (with_reducible repeat (first | apply Kd.S_alloc | apply Kd.S_drewN | apply Kd.S_drew)); exact HO_3.out) (Kd.R_base ho0) hb); have n1_ := Aside0.mk (Kd.R_lower ho0 (below_size (by repeat (first | (with_reducible first | exact HB.out | apply below_alloc | apply pw_below_drewN | apply below_drew1) | exact HB.out)))); have n2_ := Aside0.mk (below_step (by repeat (first | (with_reducible first | exact HB.out | apply below_alloc | apply pw_below_drewN | apply below_drew1) | exact HB.out)) hb); clear HO_3; clear HB; have HO_3 := n0_; have HO107 := n1_; have HB := n2_; clear n0_ n1_ n2_; (try clear hb); (try clear hb2); (try clear hk); (try clear hi); (try clear ho0); have p11 : 0 ≤ (x11_1 : Int) := of_decide_eq_true (by first | (with_reducible assumption) | assumption); have q11 : (x11_1 : Int) < ((x3_1.length : Int) : Int) := of_decide_eq_true (by first | (with_reducible assumption) | assumption); obtain ⟨go11, co11, eo11, gb11, gl11, cl11, HG11⟩ := Kd.S_form HO_3.out (by omega); (first | cases eo11 | (injection eo11 with ea_ en_ ec_; (first | subst ea_ | (injection ea_ with ea_; subst ea_)); subst ec_; clear en_)); have GB11 := Aside0.mk gb11; have GG11 := Aside0.mk HG11; clear gb11 gl11 HG11; obtain ⟨_, ce11, hcl11, hM11, hcc11, hfr11, _, _⟩ := Kd.S_elem HO_3.out [] (x11_1 : Int) p11 q11; obtain ⟨ve11_0, rfl, ge11_0⟩ := hM11; have hx11_0 := hcc11 0 _ rfl; have hf11_0 := hfr11 0; (try simp only [show ((Kd.slice 5 (Kd.int .u8))).sz = 1 from rfl, Nat.mul_one, Nat.add_zero] at hx11_0); (try simp only [show ((Kd.slice 5 (Kd.int .u8))).sz = 1 from rfl, Nat.mul_one, Nat.add_zero] at hf11_0); (try clear hcl11); (try clear hcc11); (try clear hfr11); (try clear hM11); replace p11 := eq_true p11; replace q11 := eq_true q11; have n_ := Aside0.mk (Kd.S_mono (ok' := (fun k_ => some k_ ≠ (v106 : Value).ownBlock)) HO_3.out (fun k_ hk => hk.2)); clear HO_3; have HO_3 := n_; clear n_; have HX13 := Aside0.mk (show Kd.S (Kd.slice 5 (Kd.int .u8)) 22 w12 w.heap.size (fun k_ => ((fun _ => True)) k_ ∧ ¬ ((fun k_ => some k_ = (v106 : Value).ownBlock)) k_) (.slice (some ⟨go11, 0, none⟩) x3_1.length co11) x3_1 from (by (with_reducible repeat (first | apply Kd.S_alloc | apply Kd.S_drewN | apply Kd.S_drew)); exact Kd.S_mono HO_3.out (fun k_ hk => ⟨trivial, fun e_ => hk e_⟩))); obtain ⟨oki13, ce13, hcl13, hM13, hcc13, hfr13, hoki13, hH13⟩ := Kd.S_elem HX13.out [] (x11_1 : Int) (of_decide_eq_true (by first | (with_reducible assumption) | assumption)) (by have h_ : (x11_1 : Int) < ((x3_1.length : Int) : Int) := of_decide_eq_true (by first | (with_reducible assumption) | assumption); first | exact h_ | (have e_ := (Kd.S_reads' HO_3.out).1; omega) | simpa using h_); obtain ⟨ve13_0, rfl, ge13_0⟩ := hM13; obtain ⟨Av13_, cv13_, ev13_⟩ := Kd.R_slice HO107.out; subst ev13_; have HP13 := Kd.S_seg hH13 (of_decide_eq_true (by first | (with_reducible assumption) | assumption)) (by have h_ : (x11_1 : Int) < ((x3_1.length : Int) : Int) := of_decide_eq_true (by first | (with_reducible assumption) | assumption); first | exact h_ | (have e_ := (Kd.S_reads' HO_3.out).1; omega) | simpa using h_) (seg := [(.slice Av13_ t105.length cv13_)]) (j := 0) (show 1 ≤ 1 from by decide) (x' := t105) (Kd.M_row (Kd.R_mono (Kd.R_tight rfl (Kd.R_mono (ok' := fun k_ => ((fun _ => True)) k_ ∧ k_ ≠ go11) (Kd.R_apart' (HO107.out) (Kd.S_typed HO_3.out) (by decide)) (fun k_ hk => ⟨trivial, fun e_ => (hk.2) (by rw [e_]; rfl)⟩))) (fun _ h_ => Or.inr (h_)))) (fun _ hk => hk) (fun k_ hk_ => ((Kd.R_mono (ok' := fun k_ => ((fun _ => True)) k_ ∧ k_ ≠ go11) (Kd.R_apart' (HO107.out) (Kd.S_typed HO_3.out) (by decide)) (fun k_ hk => ⟨trivial, fun e_ => (hk.2) (by rw [e_]; rfl)⟩))).1 k_ hk_.symm); have hx13_0 := hcc13 0 _ rfl; (try simp only [show ((Kd.slice 5 (Kd.int .u8))).sz = 1 from rfl, Nat.mul_one, Nat.add_zero] at hx13_0); have hf13_0 := hfr13 0; (try simp only [show ((Kd.slice 5 (Kd.int .u8))).sz = 1 from rfl, Nat.mul_one, Nat.add_zero] at hf13_0); (try clear hcl13); (try clear hcc13); (try clear hfr13); (try clear hM13); (try clear hoki13); (try clear hH13); (try simp only [show ((Kd.slice 5 (Kd.int .u8))).sz = 1 from rfl, Nat.mul_one, Nat.add_zero] at HP13)) | ((with_reducible refine gate_store (t := 22) (p := 20) rfl ?_); refine store_event (t := 22) (p := 20) (v := ?vo_w14) (w1 := (w12.setCell ⟨go11, (x11_1 : Int).toNat, none⟩ ((.slice Av13_ t105.length cv13_)))) ?hg ?ho ?hn ?hr ?_; (case ho => rfl); (case hg => rfl); (case hn => rfl); (case hr => first | (go_simp; done) | (go_simp; rfl)); intro w14 hw; have hg : w12.grownBy w14 (some go11) := (by rw [hw]; exact HP13.2); have hp_ : Kd.S (Kd.slice 5 (Kd.int .u8)) 22 w14 w.heap.size (fun _ => True) (.slice (some ⟨go11, 0, none⟩) x3_1.length co11) y108 := (by rw [hw, Ny108.out]; exact HP13.1); clear HP13; have n0_ := Aside0.mk (hp_); have n1_ := Aside0.mk ((by rw [hw]; exact below_set (HB.out) GB11.out : Below w.heap.size w w14)); clear HO_3; clear HB; clear HO107; have HO_3 := n0_; have HB := n1_; clear n0_ n1_; clear hg hw hp_))
                  go_roundg k1
                  case measure => have := HK1.out; omega
                  case rel => exact ⟨(y108), (wrap64 (x11_1 + 1)), (by first | rfl | (simp; done) | (simp [*]; done)), H', ⟨by have := HK1.out; omega⟩, ⟨by (with_reducible repeat (first | apply Kd.S_alloc | apply Kd.S_drewN | apply Kd.S_drew)); exact HO_3.out⟩, ⟨by repeat (first | (with_reducible first | exact HB.out | apply below_alloc | apply pw_below_drewN | apply below_drew1) | exact HB.out)⟩⟩
                · rw [if_neg c10] at H
                  exact absurd H (by simp)
              · rw [if_neg c8] at H
                exact absurd H (by simp)
            · rw [if_neg c7] at H
              exact absurd H (by simp)
          · rw [if_neg c6] at H
            have c6b0 : decide (x11_1 < (l0.length : Int)) = false := decide_eq_false c6
            clear c6
            obtain rfl := Option.some.inj H
            go_wp2
            go_ret
            exact ⟨_, by first | rfl | (simp [errW_none, errW_some] <;> rfl) | (simp [*, errW_none, errW_some] <;> rfl), by (with_reducible repeat (first | apply Kd.S_alloc | apply Kd.S_drewN | apply Kd.S_drew)); exact HO_3.out, by repeat (first | (with_reducible first | exact HB.out | apply below_alloc | apply pw_below_drewN | apply below_drew1) | exact HB.out)⟩
    · rw [if_neg c3] at H
      exact absurd H (by simp)
  · rw [if_neg c2] at H
    exact absurd H (by simp)

end Go.Proofs.Ytbogmlckbkogiaa.P

-- Printed by a wrapper (wip/tools/myprint.py) of the kit's print, with hand-written contracts as given leaves.
namespace Go.Proofs.Ytbogmlckbkogiaa.P
open Go.Proofs.Ytbogmlckbkogiaa.Leaf
open Go.RowKit Go.Proofs.YtbogmlckbkogiaaW.PrintWords Go.Proofs.YtbogmlckbkogiaaW.PrintLast Go.Proofs.YtbogmlckbkogiaaW.PrintMore
attribute [local go_sem] max2_int min2_int max_two min_two max_three min_three max_four min_four   -- for this text's walks alone
set_option linter.unusedVariables false
set_option linter.unusedSimpArgs false

/-! ### mooringref02_May: function 53 -/
mutual
def mooringref02_May.j0 : Nat → List (List Int) → Bool → Option (Bool)
  | 0, _, _ => none
  | k + 1, x0, x11 => if x11 = true then (some false) else (mooringref02_May.l0 k x0 0)
def mooringref02_May.l0 : Nat → List (List Int) → Int → Option (Bool)
  | 0, _, _ => none
  | k + 1, x0, x3 => if x3 < (x0.length : Int) then (if 0 ≤ x3 then (if ((rd_L1 x0 x3).length : Int) < 1 then (some false) else (if ((rd_L1 x0 x3).length : Int) > 255 then (some false) else (if 0 < (x0.length : Int) then (if ((rd_L1 x0 x3).length : Int) = ((rd_L1 x0 0).length : Int) then (mooringref02_May.l0 k x0 (wrap64 (x3 + 1))) else (some false)) else (none)))) else (none)) else (some true)
end
def mooringref02_May.f (k : Nat) (l0 : List (List Int)) : Option (Bool) := if (l0.length : Int) < 1 then (mooringref02_May.j0 k l0 true) else (mooringref02_May.j0 k l0 (decide ((l0.length : Int) > 255)))
theorem mooringref02_May.mono_l : ∀ k, (∀ y0 y1, LeO (mooringref02_May.j0 k y0 y1) (mooringref02_May.j0 (k + 1) y0 y1)) ∧ (∀ y0 y1, LeO (mooringref02_May.l0 k y0 y1) (mooringref02_May.l0 (k + 1) y0 y1))
  | 0 => ⟨fun _ _ r h => by simp [mooringref02_May.j0] at h, fun _ _ r h => by simp [mooringref02_May.l0] at h⟩
  | k + 1 => by
    obtain ⟨ih0, ih1⟩ := mooringref02_May.mono_l k
    refine ⟨?_, ?_⟩
    · intro y0 y1
      unfold mooringref02_May.j0
      repeat' first
      | (with_reducible exact ih0 _ _)
      | (with_reducible exact ih1 _ _)
      | (with_reducible exact LeO.refl _)
      | (with_reducible exact LeO.none _)
      | (with_reducible refine LeO.ite ?_ ?_)
      | (with_reducible refine LeO.bind ?_ (fun _ => ?_))
      | exact ih0 _ _
      | exact ih1 _ _
      | exact LeO.none _
      | refine LeO.ite ?_ ?_
      | refine LeO.bind ?_ (fun _ => ?_)
    · intro y0 y1
      unfold mooringref02_May.l0
      repeat' first
      | (with_reducible exact ih0 _ _)
      | (with_reducible exact ih1 _ _)
      | (with_reducible exact LeO.refl _)
      | (with_reducible exact LeO.none _)
      | (with_reducible refine LeO.ite ?_ ?_)
      | (with_reducible refine LeO.bind ?_ (fun _ => ?_))
      | exact ih0 _ _
      | exact ih1 _ _
      | exact LeO.none _
      | refine LeO.ite ?_ ?_
      | refine LeO.bind ?_ (fun _ => ?_)
theorem mooringref02_May.mono : ∀ a0 k, LeO (mooringref02_May.f k a0) (mooringref02_May.f (k + 1) a0) := by
  intro a0 k
  obtain ⟨ih0, ih1⟩ := mooringref02_May.mono_l k
  unfold mooringref02_May.f
  repeat' first
      | (with_reducible exact ih0 _ _)
      | (with_reducible exact ih1 _ _)
      | (with_reducible exact LeO.refl _)
      | (with_reducible exact LeO.none _)
      | (with_reducible refine LeO.ite ?_ ?_)
      | (with_reducible refine LeO.bind ?_ (fun _ => ?_))
      | exact ih0 _ _
      | exact ih1 _ _
      | exact LeO.none _
      | refine LeO.ite ?_ ?_
      | refine LeO.bind ?_ (fun _ => ?_)
set_option maxHeartbeats 8000000 in
set_option maxRecDepth 100000 in
theorem mooringref02_May.calls (k : Nat) (A0 : Option Addr) (c0 : Nat) (l0 : List (List Int)) (r : Bool) (w : World) (hr0 : Kd.C (Kd.slice 5 (Kd.int .u8)) w A0 l0.length l0) (hc0 : l0.length ≤ c0) (h : mooringref02_May.f k l0 = some r) :
    Calls Try.prog 53 #[.slice A0 l0.length c0] w fun e w' => e = .returned (.bool r) ∧ Drawn0 w w' := by
  have HR0 := Aside0.mk hr0
  have HC0 := Aside0.mk hc0
  clear hr0 hc0
  have H : (if (l0.length : Int) < 1 then (mooringref02_May.j0 k l0 true) else (mooringref02_May.j0 k l0 (decide ((l0.length : Int) > 255)))) = some r := h
  clear h
  have HC2 := Aside0.mk H
  clear H
  go_enter Try.func53, Try.ntmps53
  go_upto_region 1 with (fail)
  repeat (go_quiet (fail); go_upto_region 1 with (fail))
  go_cut [11] (fun v11 wc => ∃ (kq : Nat) (x11_1 : Bool), v11 = .bool x11_1 ∧ Aside0 (mooringref02_May.j0 kq l0 x11_1 = some r) ∧ Aside0 (kq ≤ k) ∧ Drawn0 w wc)
  case first =>
    have H := HC2.out
    clear HC2
    by_cases c3 : (l0.length : Int) < 1
    · rw [if_pos c3] at H
      have c3b0 : decide ((l0.length : Int) < 1) = true := decide_eq_true c3
      have c3b1 : decide (l0.length < 1) = true := decide_eq_true (by omega)
      clear c3
      (first | rw [c3b0] | (simp only [i64_w, i32_w]; rw [c3b0]) | skip)
      have H' := Aside0.mk H
      clear H
      go_wp2
      repeat (go_quiet (fail); try go_wp2)
      go_meet
      case rel => exact ⟨_, (true), (by first | rfl | (simp; done) | (simp [*]; done)), H', ⟨by first | omega | exact Nat.le_refl _⟩, by repeat (first | exact Drawn0.refl _ | apply Drawn0.step)⟩
    · rw [if_neg c3] at H
      have c3b0 : decide ((l0.length : Int) < 1) = false := decide_eq_false c3
      have c3b1 : decide (l0.length < 1) = false := decide_eq_false (by omega)
      clear c3
      (first | rw [c3b0] | (simp only [i64_w, i32_w]; rw [c3b0]) | skip)
      have H' := Aside0.mk H
      clear H
      go_wp2
      repeat (go_quiet (fail); try go_wp2)
      go_meet
      case rel => exact ⟨_, (decide ((l0.length : Int) > 255)), (by first | rfl | (simp; done) | (simp [*]; done)), H', ⟨by first | omega | exact Nat.le_refl _⟩, by repeat (first | exact Drawn0.refl _ | apply Drawn0.step)⟩
  case rest =>
    clear HC2
    try clear p2
    try clear c3
    try clear c3b0
    try clear c3b1
    obtain ⟨kq, x11_1, rfl, HA, HJ1, ⟨mc1, rfl⟩⟩ := hcut
    cases kq with
    | zero => exact absurd HA.out (by simp [mooringref02_May.j0])
    | succ kj1 =>
      have H := HA.out
      clear HA
      simp only [mooringref02_May.j0] at H
      by_cases c4 : x11_1 = true
      · subst c4
        have H1 : (some false) = some r := by rw [if_pos rfl] at H; exact H
        clear H
        have H := H1
        clear H1
        obtain rfl := Option.some.inj H
        go_wp2
        repeat (go_quiet (fail); try go_wp2)
        go_ret
        exact ⟨by first | rfl | (simp; done) | (simp [*]; done), by repeat (first | exact Drawn0.refl _ | apply Drawn0.step)⟩
      · replace c4 := Bool.eq_false_iff.mpr c4
        subst c4
        have H1 : (mooringref02_May.l0 kj1 l0 0) = some r := by rw [if_neg (show ¬ (false = true) by decide)] at H; exact H
        clear H
        have H := H1
        clear H1
        have H' := Aside0.mk H
        clear H
        go_wp2
        repeat (go_quiet (fail); try go_wp2)
        go_loopg [3] kj1 (fun kq v3 w' => ∃ (x3_2 : Int), v3 = .int .i64 x3_2 ∧ Aside0 (mooringref02_May.l0 kq l0 x3_2 = some r) ∧ Aside0 (kq ≤ kj1) ∧ Drawn0 w w')
        case atStart => exact ⟨(0), (by first | rfl | (simp; done) | (simp [*]; done)), H', ⟨Nat.le_refl _⟩, by repeat (first | exact Drawn0.refl _ | apply Drawn0.step)⟩
        case round =>
          clear H'
          try clear c1
          try clear p2
          try clear c3
          try clear c3b0
          try clear c3b1
          try clear c4
          try clear p2
          obtain ⟨x3_2, rfl, HA, HK2, ⟨m2, rfl⟩⟩ := hrel
          cases gk with
          | zero => exact absurd HA.out (by simp [mooringref02_May.l0])
          | succ k2 =>
            have H := HA.out
            clear HA
            simp only [mooringref02_May.l0] at H
            by_cases c5 : x3_2 < (l0.length : Int)
            · rw [if_pos c5] at H
              have c5b0 : decide (x3_2 < (l0.length : Int)) = true := decide_eq_true c5
              clear c5
              by_cases c6 : 0 ≤ x3_2
              · rw [if_pos c6] at H
                have c6b0 : decide (0 ≤ x3_2) = true := decide_eq_true c6
                clear c6
                by_cases c7 : ((rd_L1 l0 x3_2).length : Int) < 1
                · rw [if_pos c7] at H
                  have c7b0 : decide (((rd_L1 l0 x3_2).length : Int) < 1) = true := decide_eq_true c7
                  have c7b1 : decide ((rd_L1 l0 x3_2).length < 1) = true := decide_eq_true (by omega)
                  clear c7
                  obtain rfl := Option.some.inj H
                  have p101 : 0 ≤ (x3_2 : Int) := of_decide_eq_true (by first | (with_reducible assumption) | assumption)
                  have q101 : x3_2 < (l0.length : Int) := of_decide_eq_true (by first | (with_reducible assumption) | assumption)
                  obtain ⟨ad101, A101_0, c101_0, e101, hx101_0, hl101_0, hi101_0⟩ := at_L1 HR0.out x3_2 p101 q101
                  cases e101
                  have HR101_0 := Aside0.mk hi101_0
                  have HC101_0 := Aside0.mk hl101_0
                  clear hi101_0 hl101_0
                  replace p101 := eq_true p101
                  replace q101 := eq_true q101
                  go_wp2
                  repeat (go_quiet (fail); try go_wp2)
                  go_ret
                  exact ⟨by first | rfl | (simp; done) | (simp [*]; done), by repeat (first | exact Drawn0.refl _ | apply Drawn0.step)⟩
                · rw [if_neg c7] at H
                  have c7b0 : decide (((rd_L1 l0 x3_2).length : Int) < 1) = false := decide_eq_false c7
                  have c7b1 : decide ((rd_L1 l0 x3_2).length < 1) = false := decide_eq_false (by omega)
                  clear c7
                  by_cases c8 : ((rd_L1 l0 x3_2).length : Int) > 255
                  · rw [if_pos c8] at H
                    have c8b0 : decide (255 < ((rd_L1 l0 x3_2).length : Int)) = true := decide_eq_true c8
                    have c8b1 : decide (255 < (rd_L1 l0 x3_2).length) = true := decide_eq_true (by omega)
                    clear c8
                    obtain rfl := Option.some.inj H
                    have p101 : 0 ≤ (x3_2 : Int) := of_decide_eq_true (by first | (with_reducible assumption) | assumption)
                    have q101 : x3_2 < (l0.length : Int) := of_decide_eq_true (by first | (with_reducible assumption) | assumption)
                    obtain ⟨ad101, A101_0, c101_0, e101, hx101_0, hl101_0, hi101_0⟩ := at_L1 HR0.out x3_2 p101 q101
                    cases e101
                    have HR101_0 := Aside0.mk hi101_0
                    have HC101_0 := Aside0.mk hl101_0
                    clear hi101_0 hl101_0
                    replace p101 := eq_true p101
                    replace q101 := eq_true q101
                    have p102 : 0 ≤ (x3_2 : Int) := of_decide_eq_true (by first | (with_reducible assumption) | assumption)
                    have q102 : x3_2 < (l0.length : Int) := of_decide_eq_true (by first | (with_reducible assumption) | assumption)
                    obtain ⟨ad102, A102_0, c102_0, e102, hx102_0, hl102_0, hi102_0⟩ := at_L1 HR0.out x3_2 p102 q102
                    obtain rfl : ad101 = ad102 := (by injection e102)
                    have HR102_0 := Aside0.mk hi102_0
                    have HC102_0 := Aside0.mk hl102_0
                    clear hi102_0 hl102_0
                    replace p102 := eq_true p102
                    replace q102 := eq_true q102
                    have ea_ := Option.some.inj (hx101_0.symm.trans hx102_0)
                    injection ea_ with ea_ en_ ec_
                    subst ea_
                    subst ec_
                    clear en_
                    go_wp2
                    repeat (go_quiet (fail); try go_wp2)
                    go_ret
                    exact ⟨by first | rfl | (simp; done) | (simp [*]; done), by repeat (first | exact Drawn0.refl _ | apply Drawn0.step)⟩
                  · rw [if_neg c8] at H
                    have c8b0 : decide (255 < ((rd_L1 l0 x3_2).length : Int)) = false := decide_eq_false c8
                    have c8b1 : decide (255 < (rd_L1 l0 x3_2).length) = false := decide_eq_false (by omega)
                    clear c8
                    by_cases c9 : 0 < (l0.length : Int)
                    · rw [if_pos c9] at H
                      have c9b0 : decide (0 < (l0.length : Int)) = true := decide_eq_true c9
                      have c9b1 : decide (0 < l0.length) = true := decide_eq_true (by omega)
                      clear c9
                      by_cases c10 : ((rd_L1 l0 x3_2).length : Int) = ((rd_L1 l0 0).length : Int)
                      · rw [if_pos c10] at H
                        have c10b0 : (((rd_L1 l0 x3_2).length : Int) == ((rd_L1 l0 0).length : Int)) = true := beq_iff_eq.mpr c10
                        have c10b1 : (((rd_L1 l0 x3_2).length : Int) != ((rd_L1 l0 0).length : Int)) = false := bne_eq_false_iff_eq.mpr c10
                        have c10b2 : ((rd_L1 l0 x3_2).length == (rd_L1 l0 0).length) = true := by first | simpa using c10 | (simp at c10 ⊢; omega)
                        clear c10
                        have H' := Aside0.mk H
                        clear H
                        have p101 : 0 ≤ (x3_2 : Int) := of_decide_eq_true (by first | (with_reducible assumption) | assumption)
                        have q101 : x3_2 < (l0.length : Int) := of_decide_eq_true (by first | (with_reducible assumption) | assumption)
                        obtain ⟨ad101, A101_0, c101_0, e101, hx101_0, hl101_0, hi101_0⟩ := at_L1 HR0.out x3_2 p101 q101
                        cases e101
                        have HR101_0 := Aside0.mk hi101_0
                        have HC101_0 := Aside0.mk hl101_0
                        clear hi101_0 hl101_0
                        replace p101 := eq_true p101
                        replace q101 := eq_true q101
                        have p102 : 0 ≤ (x3_2 : Int) := of_decide_eq_true (by first | (with_reducible assumption) | assumption)
                        have q102 : x3_2 < (l0.length : Int) := of_decide_eq_true (by first | (with_reducible assumption) | assumption)
                        obtain ⟨ad102, A102_0, c102_0, e102, hx102_0, hl102_0, hi102_0⟩ := at_L1 HR0.out x3_2 p102 q102
                        obtain rfl : ad101 = ad102 := (by injection e102)
                        have HR102_0 := Aside0.mk hi102_0
                        have HC102_0 := Aside0.mk hl102_0
                        clear hi102_0 hl102_0
                        replace p102 := eq_true p102
                        replace q102 := eq_true q102
                        have ea_ := Option.some.inj (hx101_0.symm.trans hx102_0)
                        injection ea_ with ea_ en_ ec_
                        subst ea_
                        subst ec_
                        clear en_
                        have p103 : 0 ≤ (x3_2 : Int) := of_decide_eq_true (by first | (with_reducible assumption) | assumption)
                        have q103 : x3_2 < (l0.length : Int) := of_decide_eq_true (by first | (with_reducible assumption) | assumption)
                        obtain ⟨ad103, A103_0, c103_0, e103, hx103_0, hl103_0, hi103_0⟩ := at_L1 HR0.out x3_2 p103 q103
                        obtain rfl : ad101 = ad103 := (by injection e103)
                        have HR103_0 := Aside0.mk hi103_0
                        have HC103_0 := Aside0.mk hl103_0
                        clear hi103_0 hl103_0
                        replace p103 := eq_true p103
                        replace q103 := eq_true q103
                        have ea_ := Option.some.inj (hx101_0.symm.trans hx103_0)
                        injection ea_ with ea_ en_ ec_
                        subst ea_
                        subst ec_
                        clear en_
                        have p104 : 0 ≤ (0 : Int) := (by omega)
                        have q104 : 0 < (l0.length : Int) := of_decide_eq_true (by first | (with_reducible assumption) | assumption)
                        obtain ⟨ad104, A104_0, c104_0, e104, hx104_0, hl104_0, hi104_0⟩ := at_L1 HR0.out 0 p104 q104
                        obtain rfl : ad101 = ad104 := (by injection e104)
                        have qi104 : (0 < l0.length) = True := eq_true (by omega)
                        (try rw [show ((0 : Int)).toNat = 0 from rfl] at hx104_0)
                        (try rw [Addr.add_zero'] at hx104_0)
                        have HR104_0 := Aside0.mk hi104_0
                        have HC104_0 := Aside0.mk hl104_0
                        clear hi104_0 hl104_0
                        replace p104 := eq_true p104
                        replace q104 := eq_true q104
                        go_wp2
                        repeat (go_quiet (fail); try go_wp2)
                        go_roundg k2
                        case measure => have := HJ1.out; have := HK2.out; omega
                        case rel => exact ⟨(wrap64 (x3_2 + 1)), (by first | rfl | (simp; done) | (simp [*]; done)), H', ⟨by have := HJ1.out; have := HK2.out; omega⟩, by repeat (first | exact Drawn0.refl _ | apply Drawn0.step)⟩
                      · rw [if_neg c10] at H
                        have c10b0 : (((rd_L1 l0 x3_2).length : Int) == ((rd_L1 l0 0).length : Int)) = false := beq_eq_false_iff_ne.mpr c10
                        have c10b1 : (((rd_L1 l0 x3_2).length : Int) != ((rd_L1 l0 0).length : Int)) = true := bne_iff_ne.mpr c10
                        have c10b2 : ((rd_L1 l0 x3_2).length == (rd_L1 l0 0).length) = false := by first | simpa using c10 | (simp at c10 ⊢; omega)
                        obtain rfl := Option.some.inj H
                        have p101 : 0 ≤ (x3_2 : Int) := of_decide_eq_true (by first | (with_reducible assumption) | assumption)
                        have q101 : x3_2 < (l0.length : Int) := of_decide_eq_true (by first | (with_reducible assumption) | assumption)
                        obtain ⟨ad101, A101_0, c101_0, e101, hx101_0, hl101_0, hi101_0⟩ := at_L1 HR0.out x3_2 p101 q101
                        cases e101
                        have HR101_0 := Aside0.mk hi101_0
                        have HC101_0 := Aside0.mk hl101_0
                        clear hi101_0 hl101_0
                        replace p101 := eq_true p101
                        replace q101 := eq_true q101
                        have p102 : 0 ≤ (x3_2 : Int) := of_decide_eq_true (by first | (with_reducible assumption) | assumption)
                        have q102 : x3_2 < (l0.length : Int) := of_decide_eq_true (by first | (with_reducible assumption) | assumption)
                        obtain ⟨ad102, A102_0, c102_0, e102, hx102_0, hl102_0, hi102_0⟩ := at_L1 HR0.out x3_2 p102 q102
                        obtain rfl : ad101 = ad102 := (by injection e102)
                        have HR102_0 := Aside0.mk hi102_0
                        have HC102_0 := Aside0.mk hl102_0
                        clear hi102_0 hl102_0
                        replace p102 := eq_true p102
                        replace q102 := eq_true q102
                        have ea_ := Option.some.inj (hx101_0.symm.trans hx102_0)
                        injection ea_ with ea_ en_ ec_
                        subst ea_
                        subst ec_
                        clear en_
                        have p103 : 0 ≤ (x3_2 : Int) := of_decide_eq_true (by first | (with_reducible assumption) | assumption)
                        have q103 : x3_2 < (l0.length : Int) := of_decide_eq_true (by first | (with_reducible assumption) | assumption)
                        obtain ⟨ad103, A103_0, c103_0, e103, hx103_0, hl103_0, hi103_0⟩ := at_L1 HR0.out x3_2 p103 q103
                        obtain rfl : ad101 = ad103 := (by injection e103)
                        have HR103_0 := Aside0.mk hi103_0
                        have HC103_0 := Aside0.mk hl103_0
                        clear hi103_0 hl103_0
                        replace p103 := eq_true p103
                        replace q103 := eq_true q103
                        have ea_ := Option.some.inj (hx101_0.symm.trans hx103_0)
                        injection ea_ with ea_ en_ ec_
                        subst ea_
                        subst ec_
                        clear en_
                        have p104 : 0 ≤ (0 : Int) := (by omega)
                        have q104 : 0 < (l0.length : Int) := of_decide_eq_true (by first | (with_reducible assumption) | assumption)
                        obtain ⟨ad104, A104_0, c104_0, e104, hx104_0, hl104_0, hi104_0⟩ := at_L1 HR0.out 0 p104 q104
                        obtain rfl : ad101 = ad104 := (by injection e104)
                        have qi104 : (0 < l0.length) = True := eq_true (by omega)
                        (try rw [show ((0 : Int)).toNat = 0 from rfl] at hx104_0)
                        (try rw [Addr.add_zero'] at hx104_0)
                        have HR104_0 := Aside0.mk hi104_0
                        have HC104_0 := Aside0.mk hl104_0
                        clear hi104_0 hl104_0
                        replace p104 := eq_true p104
                        replace q104 := eq_true q104
                        go_wp2
                        repeat (go_quiet (fail); try go_wp2)
                        go_ret
                        exact ⟨by first | rfl | (simp; done) | (simp [*]; done), by repeat (first | exact Drawn0.refl _ | apply Drawn0.step)⟩
                    · rw [if_neg c9] at H
                      exact absurd H (by simp)
              · rw [if_neg c6] at H
                exact absurd H (by simp)
            · rw [if_neg c5] at H
              have c5b0 : decide (x3_2 < (l0.length : Int)) = false := decide_eq_false c5
              clear c5
              obtain rfl := Option.some.inj H
              go_wp2
              repeat (go_quiet (fail); try go_wp2)
              go_ret
              exact ⟨by first | rfl | (simp; done) | (simp [*]; done), by repeat (first | exact Drawn0.refl _ | apply Drawn0.step)⟩

end Go.Proofs.Ytbogmlckbkogiaa.P

/- Which matrices may be; a matrix' copy. Conditions: told at each. -/
namespace Go.Proofs.Ytbogmlckbkogiaa.Red
open Go.RowKit Go.Proofs.YtbogmlckbkogiaaW.PrintWords Go.Proofs.Ytbogmlckbkogiaa.Leaf Go.Proofs.Ytbogmlckbkogiaa.Gf Go.Proofs.Ytbogmlckbkogiaa.H Go.Proofs.Ytbogmlckbkogiaa.Mx Go.Proofs.Ytbogmlckbkogiaa.P
set_option linter.unusedVariables false
set_option linter.unusedSimpArgs false
/-- May a matrix be? -/
def mayB (A : Mat) : Bool := decide (0 < A.length) && decide (A.length ≤ 255) && decide (0 < (row A 0).length) && decide ((row A 0).length ≤ 255) && (List.range A.length).all fun i => (row A i).length == (row A 0).length
theorem mayB_iff (A : Mat) : mayB A = true ↔ 0 < A.length ∧ A.length ≤ 255 ∧ 0 < (row A 0).length ∧ (row A 0).length ≤ 255 ∧ ∀ i, i < A.length → (row A i).length = (row A 0).length := by
  unfold mayB
  simp only [Bool.and_eq_true, decide_eq_true_eq, List.all_eq_true, List.mem_range, beq_iff_eq]
  exact ⟨fun ⟨⟨⟨⟨a, b⟩, c⟩, d⟩, e⟩ => ⟨a, b, c, d, e⟩, fun ⟨a, b, c, d, e⟩ => ⟨⟨⟨⟨a, b⟩, c⟩, d⟩, e⟩⟩
theorem mayB_reg {A : Mat} (h : mayB A = true) : Reg A A.length (row A 0).length ∧ 0 < A.length ∧ A.length ≤ 255 ∧ 0 < (row A 0).length ∧ (row A 0).length ≤ 255 := by
  obtain ⟨a, b, c, d, e⟩ := (mayB_iff A).1 h
  exact ⟨⟨rfl, e⟩, a, b, c, d⟩
theorem mayB_of {A : Mat} {n m : Nat} (h : Reg A n m) (h1 : 0 < n) (h2 : n ≤ 255) (h3 : 0 < m) (h4 : m ≤ 255) : mayB A = true := by
  rw [mayB_iff, h.1, h.2 0 h1]
  exact ⟨h1, h2, h3, h4, fun i hi => h.2 i hi⟩
/-! ### Check, May -/
theorem chk_ok (A : Mat) (hs : A.length ≤ 9223372036854775807) (h : ∀ j, j < A.length → (row A j).length = (row A 0).length) (n : Nat) : ∀ i : Nat, i + n = A.length → Ev (fun k => matrix_Check.l0 k (oM A) (oM A) (A.length : Int) (i : Int)) 0 := by
  induction n with
  | zero =>
    intro i hi
    refine Ev.step (f := fun _ => some 0) (fun k => ?_) (Ev.now _)
    simp only [matrix_Check.l0]
    rw [if_neg (by omega)]
  | succ n ih =>
    intro i hi
    refine Ev.step (f := fun k => matrix_Check.l0 k (oM A) (oM A) (A.length : Int) ((i + 1 : Nat) : Int)) (fun k => ?_) (ih (i + 1) (by omega))
    simp only [matrix_Check.l0, oM_length, rd_oM, rd_oM0, ofL_length]
    rw [if_pos (by omega), if_pos (by omega), if_pos (by omega), if_pos (by omega), if_pos (by rw [h i (by omega)]), w64 _ (by omega) (by omega)]
    rfl
theorem chk_bad (A : Mat) (hs : A.length ≤ 9223372036854775807) (j : Nat) (hj : j < A.length) (hne : (row A j).length ≠ (row A 0).length) (n : Nat) : ∀ i : Nat, i + n = j → Ev (fun k => matrix_Check.l0 k (oM A) (oM A) (A.length : Int) (i : Int)) 1 := by
  induction n with
  | zero =>
    intro i hi
    refine Ev.step (f := fun _ => some 1) (fun k => ?_) (Ev.now _)
    simp only [matrix_Check.l0, oM_length, rd_oM, rd_oM0, ofL_length]
    rw [if_pos (by omega), if_pos (by omega), if_pos (by omega), if_pos (by omega), if_neg (by rw [show i = j by omega]; omega)]
  | succ n ih =>
    intro i hi
    by_cases he : (row A i).length = (row A 0).length
    · refine Ev.step (f := fun k => matrix_Check.l0 k (oM A) (oM A) (A.length : Int) ((i + 1 : Nat) : Int)) (fun k => ?_) (ih (i + 1) (by omega))
      simp only [matrix_Check.l0, oM_length, rd_oM, rd_oM0, ofL_length]
      rw [if_pos (by omega), if_pos (by omega), if_pos (by omega), if_pos (by omega), if_pos (by rw [he]), w64 _ (by omega) (by omega)]
      rfl
    · refine Ev.step (f := fun _ => some 1) (fun k => ?_) (Ev.now _)
      simp only [matrix_Check.l0, oM_length, rd_oM, rd_oM0, ofL_length]
      rw [if_pos (by omega), if_pos (by omega), if_pos (by omega), if_pos (by omega), if_neg (by omega)]
theorem not_may {A : Mat} (h : ¬ (0 < A.length ∧ A.length ≤ 255 ∧ 0 < (row A 0).length ∧ (row A 0).length ≤ 255 ∧ ∀ i, i < A.length → (row A i).length = (row A 0).length)) : mayB A = false := by
  rw [← Bool.not_eq_true, mayB_iff]; exact h
theorem evCheck (A : Mat) (hs : A.length ≤ 9223372036854775807) : Ev (fun k => matrix_Check.f k (oM A)) (if mayB A = true then 0 else 1) := by
  have j1 : Ev (fun k => matrix_Check.j0 k (oM A) true) 1 := Ev.step (f := fun _ => some 1) (fun k => by simp only [matrix_Check.j0, if_true]) (Ev.now _)
  unfold matrix_Check.f
  simp only [oM_length, rd_oM0, ofL_length]
  by_cases h1 : A.length = 0
  · rw [not_may (by omega)]
    simp only [show ((A.length : Int) = 0) = True from eq_true (by omega), if_true, Bool.false_eq_true, if_false]
    exact j1
  · simp only [show ((A.length : Int) = 0) = False from eq_false (by omega), if_false]
    by_cases h2 : A.length > 255
    · rw [not_may (by omega)]
      simp only [show ((A.length : Int) > 255) = True from eq_true (by omega), if_true, Bool.false_eq_true, if_false]
      exact j1
    · simp only [show ((A.length : Int) > 255) = False from eq_false (by omega), if_false, show ((0 : Int) < (A.length : Int)) = True from eq_true (by omega), if_true]
      by_cases h3 : (row A 0).length = 0
      · rw [not_may (by omega)]
        simp only [show (((row A 0).length : Int) = 0) = True from eq_true (by omega), if_true, Bool.false_eq_true, if_false]
        exact j1
      · simp only [show (((row A 0).length : Int) = 0) = False from eq_false (by omega), if_false]
        by_cases h4 : (row A 0).length > 255
        · rw [not_may (by omega)]
          simp only [show decide (((row A 0).length : Int) > 255) = true from decide_eq_true (by omega), Bool.false_eq_true, if_false]
          exact j1
        · simp only [show decide (((row A 0).length : Int) > 255) = false from decide_eq_false (by omega)]
          by_cases h5 : ∀ j, j < A.length → (row A j).length = (row A 0).length
          · rw [show mayB A = true from (mayB_iff A).2 ⟨by omega, by omega, by omega, by omega, h5⟩, if_pos rfl]
            refine Ev.step (f := fun k => matrix_Check.l0 k (oM A) (oM A) (A.length : Int) ((0 : Nat) : Int)) (fun k => ?_) (chk_ok A hs h5 A.length 0 (by omega))
            simp only [matrix_Check.j0, Bool.false_eq_true, if_false, oM_length]
            rfl
          · obtain ⟨j, hj, hne⟩ := uneven h5
            rw [not_may (fun h => h5 h.2.2.2.2)]
            simp only [Bool.false_eq_true, if_false]
            refine Ev.step (f := fun k => matrix_Check.l0 k (oM A) (oM A) (A.length : Int) ((0 : Nat) : Int)) (fun k => ?_) (chk_bad A hs j hj hne j 0 (by omega))
            simp only [matrix_Check.j0, Bool.false_eq_true, if_false, oM_length]
            rfl
theorem may_ok (A : Mat) (hs : A.length ≤ 9223372036854775807) (h0 : 0 < (row A 0).length) (h1 : (row A 0).length ≤ 255) (h : ∀ j, j < A.length → (row A j).length = (row A 0).length) (n : Nat) : ∀ i : Nat, i + n = A.length → Ev (fun k => mooringref02_May.l0 k (oM A) (i : Int)) true := by
  induction n with
  | zero =>
    intro i hi
    refine Ev.step (f := fun _ => some true) (fun k => ?_) (Ev.now _)
    simp only [mooringref02_May.l0, oM_length]
    rw [if_neg (by omega)]
  | succ n ih =>
    intro i hi
    have hi' := h i (by omega)
    refine Ev.step (f := fun k => mooringref02_May.l0 k (oM A) ((i + 1 : Nat) : Int)) (fun k => ?_) (ih (i + 1) (by omega))
    simp only [mooringref02_May.l0, oM_length, rd_oM, rd_oM0, ofL_length]
    rw [if_pos (by omega), if_pos (by omega), if_neg (by omega), if_neg (by omega), if_pos (by omega), if_pos (by omega), w64 _ (by omega) (by omega)]
    rfl
theorem may_bad (A : Mat) (hs : A.length ≤ 9223372036854775807) (j : Nat) (hj : j < A.length) (hne : (row A j).length < 1 ∨ (row A j).length > 255 ∨ (row A j).length ≠ (row A 0).length) (n : Nat) : ∀ i : Nat, i + n = j → Ev (fun k => mooringref02_May.l0 k (oM A) (i : Int)) false := by
  induction n with
  | zero =>
    intro i hi
    obtain rfl : i = j := by omega
    refine Ev.step (f := fun _ => some false) (fun k => ?_) (Ev.now _)
    simp only [mooringref02_May.l0, oM_length, rd_oM, rd_oM0, ofL_length]
    rw [if_pos (by omega), if_pos (by omega)]
    by_cases h1 : (row A i).length < 1
    · rw [if_pos (by omega)]
    · rw [if_neg (by omega)]
      by_cases h2 : (row A i).length > 255
      · rw [if_pos (by omega)]
      · rw [if_neg (by omega), if_pos (by omega), if_neg (by omega)]
  | succ n ih =>
    intro i hi
    by_cases he : (row A i).length < 1 ∨ (row A i).length > 255 ∨ (row A i).length ≠ (row A 0).length
    · refine Ev.step (f := fun _ => some false) (fun k => ?_) (Ev.now _)
      simp only [mooringref02_May.l0, oM_length, rd_oM, rd_oM0, ofL_length]
      rw [if_pos (by omega), if_pos (by omega)]
      by_cases h1 : (row A i).length < 1
      · rw [if_pos (by omega)]
      · rw [if_neg (by omega)]
        by_cases h2 : (row A i).length > 255
        · rw [if_pos (by omega)]
        · rw [if_neg (by omega), if_pos (by omega), if_neg (by omega)]
    · refine Ev.step (f := fun k => mooringref02_May.l0 k (oM A) ((i + 1 : Nat) : Int)) (fun k => ?_) (ih (i + 1) (by omega))
      simp only [mooringref02_May.l0, oM_length, rd_oM, rd_oM0, ofL_length]
      rw [if_pos (by omega), if_pos (by omega), if_neg (by omega), if_neg (by omega), if_pos (by omega), if_pos (by omega), w64 _ (by omega) (by omega)]
      rfl
theorem evMay (A : Mat) (hs : A.length ≤ 9223372036854775807) : Ev (fun k => mooringref02_May.f k (oM A)) (mayB A) := by
  have j1 : Ev (fun k => mooringref02_May.j0 k (oM A) true) false := Ev.step (f := fun _ => some false) (fun k => by simp only [mooringref02_May.j0, if_true]) (Ev.now _)
  have j2 : ∀ r, Ev (fun k => mooringref02_May.l0 k (oM A) ((0 : Nat) : Int)) r → Ev (fun k => mooringref02_May.j0 k (oM A) false) r := fun r h =>
    Ev.step (f := fun k => mooringref02_May.l0 k (oM A) ((0 : Nat) : Int)) (fun k => by simp only [mooringref02_May.j0, Bool.false_eq_true, if_false]; rfl) h
  unfold mooringref02_May.f
  simp only [oM_length]
  by_cases h1 : A.length < 1
  · rw [not_may (by omega)]
    simp only [show ((A.length : Int) < 1) = True from eq_true (by omega), if_true]
    exact j1
  · simp only [show ((A.length : Int) < 1) = False from eq_false (by omega), if_false]
    by_cases h2 : A.length > 255
    · rw [not_may (by omega)]
      simp only [show decide ((A.length : Int) > 255) = true from decide_eq_true (by omega)]
      exact j1
    · simp only [show decide ((A.length : Int) > 255) = false from decide_eq_false (by omega)]
      by_cases h3 : 0 < (row A 0).length ∧ (row A 0).length ≤ 255
      · by_cases h5 : ∀ j, j < A.length → (row A j).length = (row A 0).length
        · rw [show mayB A = true from (mayB_iff A).2 ⟨by omega, by omega, h3.1, h3.2, h5⟩]
          exact j2 _ (may_ok A hs h3.1 h3.2 h5 A.length 0 (by omega))
        · obtain ⟨j, hj, hne⟩ := uneven h5
          rw [not_may (fun h => h5 h.2.2.2.2)]
          exact j2 _ (may_bad A hs j hj (.inr (.inr hne)) j 0 (by omega))
      · rw [not_may (fun h => h3 ⟨h.2.2.1, h.2.2.2.1⟩)]
        exact j2 _ (may_bad A hs 0 (by omega) (by omega) 0 0 rfl)
theorem own_l0 (A : Mat) (hs : A.length < 2 ^ 62) (hr : ∀ i, i < A.length → (row A i).length < 140737488355328) (d : Nat) : ∀ (i : Nat) (X : Mat), i + d = A.length → X.length = A.length → (∀ j, j < i → row X j = row A j) → Ev (fun k => matrix_own.l0 k (oM X) (oM A) (A.length : Int) (i : Int)) (oM A) := by
  induction d with
  | zero =>
    intro i X hi hl h
    refine Ev.step (f := fun _ => some (oM X)) (fun k => ?_) ?_
    · simp only [matrix_own.l0]
      rw [if_neg (by omega)]
    · rw [show A = X from List.ext_getElem hl.symm fun j h1 h2 => by
        have h3 := h j (by omega)
        unfold row at h3
        rw [List.getD_eq_getElem?_getD, List.getElem?_eq_getElem h2, List.getD_eq_getElem?_getD, List.getElem?_eq_getElem h1] at h3
        exact h3.symm]
      exact Ev.now _
  | succ d ih =>
    intro i X hi hl h
    refine Ev.step (f := fun k => matrix_own.l0 k (oM (X.set i (row A i))) (oM A) (A.length : Int) ((i + 1 : Nat) : Int)) (fun k => ?_) (ih (i + 1) _ (by omega) (by rw [List.length_set]; exact hl) (fun j hj => ?_))
    · simp only [matrix_own.l0, oM_length, rd_oM, slices_Clone_byte_byte.f, ofL_length, Int.toNat_natCast]
      rw [if_pos (by omega), if_pos (by omega), if_pos (by omega), if_pos (hr i (by omega)), Option.bind_some, if_pos (by omega), oM_set, w64 _ (by omega) (by omega)]
      rfl
    · rw [row_set _ _ _ _ (by omega)]
      by_cases e : j = i
      · rw [if_pos e, e]
      · rw [if_neg e]; exact h j (by omega)
theorem evOwn (A : Mat) (hs : A.length ≤ 11728124029610) (hr : ∀ i, i < A.length → (row A i).length < 140737488355328) : Ev (fun k => matrix_own.f k (oM A)) (oM A) := by
  unfold matrix_own.f
  simp only [oM_length, Int.toNat_natCast, show ((0 : Int) ≤ (A.length : Int)) = True from eq_true (by omega), if_true, show (A.length ≤ 11728124029610) = True from eq_true hs]
  have e : List.replicate A.length ([] : List Int) = oM (List.replicate A.length []) := by unfold oM; rw [List.map_replicate]; rfl
  rw [e]
  exact own_l0 A (by omega) hr A.length 0 _ (by omega) (List.length_replicate ..) (fun j hj => by omega)
end Go.Proofs.Ytbogmlckbkogiaa.Red

/- Rows of numbers that are bytes. Conditions: none. -/
namespace Go.Proofs.Ytbogmlckbkogiaa.H
open Go.RowKit Go.Proofs.YtbogmlckbkogiaaW.PrintWords Go.Proofs.Ytbogmlckbkogiaa.Leaf Go.Proofs.Ytbogmlckbkogiaa.Gf
set_option linter.unusedVariables false
set_option linter.unusedSimpArgs false
def byteRow (l : List Int) : Bool := l.all fun x => decide (0 ≤ x) && decide (x < 256)
theorem byteRow_ofL (L : List B) : byteRow (ofL L) = true := by
  unfold byteRow ofL
  simp only [List.all_map, List.all_eq_true, Function.comp, Bool.and_eq_true, decide_eq_true_eq]
  exact fun x _ => ofB_range x
theorem ofL_toB (l : List Int) (h : byteRow l = true) : ofL (l.map toB) = l := by
  unfold ofL
  rw [List.map_map]
  refine (List.map_congr_left fun x hx => ?_).trans (List.map_id' l)
  have := List.all_eq_true.1 h x hx
  simp only [Bool.and_eq_true, decide_eq_true_eq] at this
  exact ofB_toB x this.1 this.2
end Go.Proofs.Ytbogmlckbkogiaa.H

/- matrix.Inverse and matrix.Rank, by their contracts. Conditions: lists of bytes. -/
namespace Go.Proofs.Ytbogmlckbkogiaa.H
open Go.RowKit Go.Proofs.YtbogmlckbkogiaaW.PrintWords Go.Proofs.YtbogmlckbkogiaaW.PrintLast Go.Proofs.Ytbogmlckbkogiaa.Leaf Go.Proofs.Ytbogmlckbkogiaa.Gf Go.Proofs.Ytbogmlckbkogiaa.Red Go.Proofs.Ytbogmlckbkogiaa.P
set_option linter.unusedVariables false
set_option linter.unusedSimpArgs false
def unM (l : List (List Int)) : Mat := l.map fun r => r.map toB
theorem unM_oM (A : Mat) : unM (oM A) = A := by
  unfold unM oM ofL
  rw [List.map_map]
  refine (List.map_congr_left fun x hx => ?_).trans (List.map_id' A)
  simp only [Function.comp, List.map_map]
  refine (List.map_congr_left fun y _ => ?_).trans (List.map_id' x)
  exact toB_ofB y
theorem bytes_oM (A : Mat) : (oM A).all byteRow = true := by
  unfold oM
  simp only [List.all_map, List.all_eq_true, Function.comp]
  exact fun x _ => byteRow_ofL x
theorem oM_unM (l : List (List Int)) (h : l.all byteRow = true) : oM (unM l) = l := by
  unfold unM oM
  rw [List.map_map]
  refine (List.map_congr_left fun x hx => ?_).trans (List.map_id' l)
  exact ofL_toB x (List.all_eq_true.1 h x hx)
/-- An inverse, if the matrix may be and has one. -/
def invR (A : Mat) : List (List Int) × Int :=
  if mayB A = true ∧ A.length = (row A 0).length then if (redF A.length 0 0 A (idM A.length)).1 < A.length then ([], 4) else (oM (redF A.length 0 0 A (idM A.length)).2.2, 0) else ([], 1)
def matrix_Inverse.f (l0 : List (List Int)) : Option (List (List Int) × Int) := if l0.all byteRow = true then some (invR (unM l0)) else none
def rankR (A : Mat) : Int × Int := if mayB A = true then (((redF (row A 0).length 0 0 A (zeroM A.length 1)).1 : Int), 0) else (0, 1)
def matrix_Rank.f (l0 : List (List Int)) : Option (Int × Int) := if l0.all byteRow = true then some (rankR (unM l0)) else none
theorem matrix_Inverse.f_oM (A : Mat) : matrix_Inverse.f (oM A) = some (invR A) := by unfold matrix_Inverse.f; rw [if_pos (bytes_oM A), unM_oM]
theorem matrix_Rank.f_oM (A : Mat) : matrix_Rank.f (oM A) = some (rankR A) := by unfold matrix_Rank.f; rw [if_pos (bytes_oM A), unM_oM]
theorem Mt.lower {w : World} {base base' g cp : Nat} {id cap : Nat → Nat} {A : List (List Int)} (h : Mt w base g cp id cap A) (hb : base' ≤ base) : Mt w base' g cp id cap A :=
  ⟨own_weaken h.outer hb, fun i hi => own_weaken (h.rows i hi) hb, h.inj⟩
/-- Two matrices made one behind the other. -/
theorem St.make {w1 w2 : World} {base n m p : Nat} {A Z : Mat} {va vz : Value} (hZ : Kd.S (Kd.slice 5 (Kd.int .u8)) 22 w1 base (fun _ => True) vz (oM Z)) (hb : Below w1.heap.size w1 w2) (hA : Kd.S (Kd.slice 5 (Kd.int .u8)) 22 w2 w1.heap.size (fun _ => True) va (oM A)) (hbase : base ≤ w1.heap.size)
    (rA : Reg A n m) (rZ : Reg Z n p) (hn : 0 < n) (hm : 0 < m) (hp : 0 < p) : ∃ ga ca gz cz, va = .slice (some ⟨ga, 0, none⟩) n ca ∧ vz = .slice (some ⟨gz, 0, none⟩) n cz ∧ St w2 base ga ca gz cz n m p A Z := by
  obtain ⟨ga, ca, ida, capa, e1, h1, _⟩ := Mt.of_S hA (by rw [oM_length, rA.1]; exact hn) (fun i hi => by rw [oM_length, rA.1] at hi; unfold oM; rw [map_getD, ofL_length, rA.2 i hi]; exact hm)
  obtain ⟨gz, cz, idz, capz, e2, h2, _⟩ := Mt.of_S hZ (by rw [oM_length, rZ.1]; exact hn) (fun i hi => by rw [oM_length, rZ.1] at hi; unfold oM; rw [map_getD, ofL_length, rZ.2 i hi]; exact hp)
  rw [oM_length, rA.1] at e1
  rw [oM_length, rZ.1] at e2
  refine ⟨ga, ca, gz, cz, e1, e2, ida, capa, idz, capz, h1.lower hbase, h2.below hb, fun i j hi hj e => ?_, fun e => ?_, rA, rZ⟩
  · have h3 := (h1.rows i (by rw [oM_length, rA.1]; exact hi)).base_
    have h4 := (h2.rows j (by rw [oM_length, rZ.1]; exact hj)).lt
    omega
  · have h3 := h1.gbase
    have h4 := h2.glt
    omega
theorem St.toS {w : World} {base ga ca gb cb n m p : Nat} {A Z : Mat} (h : St w base ga ca gb cb n m p A Z) : Kd.S (Kd.slice 5 (Kd.int .u8)) 22 w base (fun _ => True) (.slice (some ⟨gb, 0, none⟩) n cb) (oM Z) := by
  obtain ⟨a, b, c, d, h1, h2, h3, h4, h5, h6⟩ := h
  have := Kd.S_mono h2.to_S (ok' := fun _ => True) (fun _ _ => trivial)
  rw [show (Z.map ofL).length = n by rw [List.length_map, h6.1]] at this
  exact this
set_option maxHeartbeats 2000000 in
set_option maxRecDepth 100000 in
theorem matrix_Inverse.calls (A0 : Option Addr) (c0 : Nat) (l0 : List (List Int)) (r1 : List (List Int)) (r2 : Int) (w : World) (hr0 : Kd.C (Kd.slice 5 (Kd.int .u8)) w A0 l0.length l0) (hc0 : l0.length ≤ c0) (h : matrix_Inverse.f l0 = some (r1, r2)) :
    Calls Try.prog 52 #[.slice A0 l0.length c0] w fun e w' => ∃ v0_ : Value, e = .returned (.tuple #[v0_, .int .i64 r2]) ∧ Kd.S (Kd.slice 5 (Kd.int .u8)) 22 w' w.heap.size (fun _ => True) v0_ r1 ∧ Below w.heap.size w w' := by
  unfold matrix_Inverse.f at h
  by_cases hby : l0.all byteRow = true
  · rw [if_pos hby] at h
    obtain ⟨A, rfl⟩ : ∃ A, l0 = oM A := ⟨unM l0, (oM_unM l0 hby).symm⟩
    rw [unM_oM] at h
    have hinv := Option.some.inj h
    clear h hby
    have hlen : A.length ≤ 9223372036854775807 := by have := hr0.2.1; rwa [oM_length] at this
    have hchk : Aside0 (Calls Try.prog 65 #[.slice A0 A.length c0] w fun e w' => e = .returned (.int .i64 (if mayB A = true then 0 else 1)) ∧ Drawn0 w w') := ⟨by
      obtain ⟨k, hk⟩ := (evCheck A hlen).rounds
      have := matrix_Check.calls k A0 c0 (oM A) _ w hr0 hc0 hk
      rwa [oM_length] at this⟩
    rw [oM_length]
    rw [oM_length] at hc0
    unfold invR at hinv
    by_cases hm : mayB A = true
    · rw [hm] at hchk
      obtain ⟨hreg, p1, p2, p3, p4⟩ := mayB_reg hm
      obtain ⟨As, cs, hcell, hrows⟩ := rows_vals hr0
      obtain ⟨ad, rfl, hce⟩ := hcell (by rw [oM_length]; exact p1)
      have hz : w.cell? ad = some (.slice (As 0) (row A 0).length (cs 0)) := by
        have := hce 0 (by rw [oM_length]; exact p1)
        rw [Addr.add_zero'] at this
        unfold oM at this
        rw [map_getD, ofL_length] at this
        exact this
      have hn0 : (0 : Int) < (A.length : Int) := by omega
      clear hce hrows hcell
      by_cases hsq : A.length = (row A 0).length
      · rw [if_pos ⟨hm, hsq⟩] at hinv
        have hsq2 : Reg A A.length A.length := by have := hreg; rw [← hsq] at this; exact this
        have hid : Aside0 (∀ W, Calls Try.prog 68 #[.int .i64 (A.length : Int)] W fun e w' => ∃ v, e = .returned (.tuple #[v, .int .i64 0]) ∧ Kd.S (Kd.slice 5 (Kd.int .u8)) 22 w' W.heap.size (fun _ => True) v (oM (idM A.length)) ∧ Below W.heap.size W w') := ⟨fun W => by
          obtain ⟨k, hk⟩ := (evIdentity (A.length : Int)).rounds
          unfold idR at hk
          rw [if_pos (by omega), Int.toNat_natCast] at hk
          exact matrix_Identity.calls k _ _ _ W hk⟩
        have hown : Aside0 (∀ W, Below w.heap.size w W → Calls Try.prog 91 #[.slice (some ad) A.length c0] W fun e w' => ∃ v, e = .returned v ∧ Kd.S (Kd.slice 5 (Kd.int .u8)) 22 w' W.heap.size (fun _ => True) v (oM A) ∧ Below W.heap.size W w') := ⟨fun W hW => by
          obtain ⟨k, hk⟩ := (evOwn A (by omega) (fun i hi => by rw [hreg.2 i hi]; omega)).rounds
          have := matrix_own.calls k _ c0 (oM A) _ W (Kd.C_below hr0 hW) (by rw [oM_length]; exact hc0) hk
          rwa [oM_length] at this⟩
        have t1 : ((A.length : Int) != ((row A 0).length : Int)) = false := by simp [hsq]
        have t2 : (A.length == (row A 0).length) = true := by simp [← hsq]
        have t3 : (A.length != (row A 0).length) = false := by simp [← hsq]
        have HR := Aside0.mk hinv
        have HG := Aside0.mk hsq2
        have HP := Aside0.mk (show 0 < A.length ∧ A.length ≤ 255 from ⟨p1, p2⟩)
        have HSQ := Aside0.mk hsq
        clear hinv hsq2 hsq hm hreg p3 p4 hr0
        go_enter Try.func52, Try.ntmps52
        go_wp2_with fail
        refine hchk.out.mono ?_
        rintro e w' ⟨rfl, ⟨nq, rfl⟩⟩
        clear hchk
        go_wp2_with fail
        refine (hid.out _).mono ?_
        rintro e w1 ⟨vz, rfl, hSz, hb1⟩
        have hbz : Below w.heap.size w w1 := below_step (pw_below_drewN (Below.refl _ _) nq) hb1
        have HZ : Aside0 (Kd.S (Kd.slice 5 (Kd.int .u8)) 22 w1 w.heap.size (fun _ => True) vz (oM (idM A.length))) := ⟨hSz⟩
        have HB1 := Aside0.mk hbz
        clear hid hSz hbz hb1
        go_wp2_with fail
        refine (hown.out _ HB1.out).mono ?_
        rintro e w2 ⟨va, rfl, hSa, hb2⟩
        obtain ⟨ga, ca, gz, cz, rfl, rfl, hSt⟩ := St.make HZ.out hb2 hSa (below_size HB1.out) HG.out (matF_reg _ _ _) HP.out.1 HP.out.1 HP.out.1
        have hb3 := below_step HB1.out hb2
        have hred := reduce_calls w2 w.heap.size ga ca gz cz A.length A.length A.length A (idM A.length) hSt HP.out.1 HP.out.1 HP.out.1 HP.out.2 HP.out.2 HP.out.2 (below_size hb3)
        have HRED := Aside0.mk hred
        have HB3 := Aside0.mk hb3
        clear hred hb3 hSt hSa hb2 HZ HB1 hown
        have hle := redF_le HP.out.1 HG.out (matF_reg A.length A.length Mx.I)
        rw [← idM_eq] at hle
        generalize redF A.length 0 0 A (idM A.length) = R at *
        obtain ⟨cnt, Ra, Rz⟩ := R
        simp only at HR HRED hle
        by_cases hlt : cnt < A.length
        · have HR2 : Aside0 (([], (4 : Int)) = (r1, r2)) := ⟨by have := HR.out; rw [if_pos hlt] at this; exact this⟩
          have u1 : decide ((cnt : Int) < (A.length : Int)) = true := decide_eq_true (by omega)
          have u2 : decide (cnt < A.length) = true := decide_eq_true hlt
          clear HR hlt hle
          go_wp2_with fail
          refine HRED.out.mono ?_
          rintro e w4 ⟨rfl, hst4, hb4⟩
          have HB4 := Aside0.mk (show Below w.heap.size w w4 from HB3.out.trans hb4)
          clear hst4 hb4 HRED
          go_wp2
          go_ret2
          obtain ⟨rfl, rfl⟩ := Prod.mk.inj HR2.out
          exact ⟨_, rfl, Kd.S_nil _ _ _ _ _, HB4.out⟩
        · have HR2 : Aside0 ((oM Rz, (0 : Int)) = (r1, r2)) := ⟨by have := HR.out; rw [if_neg hlt] at this; exact this⟩
          have u1 : decide ((cnt : Int) < (A.length : Int)) = false := decide_eq_false (by omega)
          have u2 : decide (cnt < A.length) = false := decide_eq_false hlt
          clear HR hlt hle
          go_wp2_with fail
          refine HRED.out.mono ?_
          rintro e w4 ⟨rfl, hst4, hb4⟩
          have HB4 := Aside0.mk (show Below w.heap.size w w4 from HB3.out.trans hb4)
          have HS4 := Aside0.mk hst4.toS
          clear hst4 hb4 HRED
          go_wp2
          go_ret2
          obtain ⟨rfl, rfl⟩ := Prod.mk.inj HR2.out
          exact ⟨_, rfl, HS4.out, HB4.out⟩
      · rw [if_neg (fun h => hsq h.2)] at hinv
        obtain ⟨rfl, rfl⟩ := Prod.mk.inj hinv
        have t1 : ((A.length : Int) != ((row A 0).length : Int)) = true := by simp; omega
        have t2 : (A.length == (row A 0).length) = false := by simp [hsq]
        have t3 : (A.length != (row A 0).length) = true := by simp [hsq]
        clear hinv hsq hm hreg hr0
        go_enter Try.func52, Try.ntmps52
        go_wp2_with fail
        refine hchk.out.mono ?_
        rintro e w' ⟨rfl, ⟨nq, rfl⟩⟩
        clear hchk
        go_wp2
        go_ret2
        exact ⟨_, rfl, Kd.S_nil _ _ _ _ _, pw_below_drewN (Below.refl _ _) nq⟩
    · rw [if_neg (fun h => hm h.1)] at hinv
      rw [if_neg hm] at hchk
      obtain ⟨rfl, rfl⟩ := Prod.mk.inj hinv
      clear hinv hm hr0
      go_enter Try.func52, Try.ntmps52
      go_wp2_with fail
      refine hchk.out.mono ?_
      rintro e w' ⟨rfl, ⟨nq, rfl⟩⟩
      clear hchk
      go_wp2
      go_ret2
      exact ⟨_, rfl, Kd.S_nil _ _ _ _ _, pw_below_drewN (Below.refl _ _) nq⟩
  · rw [if_neg hby] at h
    cases h
set_option maxHeartbeats 2000000 in
set_option maxRecDepth 100000 in
theorem matrix_Rank.calls (A0 : Option Addr) (c0 : Nat) (l0 : List (List Int)) (r1 : Int) (r2 : Int) (w : World) (hr0 : Kd.C (Kd.slice 5 (Kd.int .u8)) w A0 l0.length l0) (hc0 : l0.length ≤ c0) (h : matrix_Rank.f l0 = some (r1, r2)) :
    Calls Try.prog 70 #[.slice A0 l0.length c0] w fun e w' => e = .returned (.tuple #[.int .i64 r1, .int .i64 r2]) ∧ Below w.heap.size w w' := by
  unfold matrix_Rank.f at h
  by_cases hby : l0.all byteRow = true
  · rw [if_pos hby] at h
    obtain ⟨A, rfl⟩ : ∃ A, l0 = oM A := ⟨unM l0, (oM_unM l0 hby).symm⟩
    rw [unM_oM] at h
    have hinv := Option.some.inj h
    clear h hby
    have hlen : A.length ≤ 9223372036854775807 := by have := hr0.2.1; rwa [oM_length] at this
    have hchk : Aside0 (Calls Try.prog 65 #[.slice A0 A.length c0] w fun e w' => e = .returned (.int .i64 (if mayB A = true then 0 else 1)) ∧ Drawn0 w w') := ⟨by
      obtain ⟨k, hk⟩ := (evCheck A hlen).rounds
      have := matrix_Check.calls k A0 c0 (oM A) _ w hr0 hc0 hk
      rwa [oM_length] at this⟩
    rw [oM_length]
    rw [oM_length] at hc0
    unfold rankR at hinv
    by_cases hm : mayB A = true
    · rw [hm] at hchk
      rw [if_pos hm] at hinv
      obtain ⟨hreg, p1, p2, p3, p4⟩ := mayB_reg hm
      have hzs : Aside0 (∀ W, Calls Try.prog 94 #[.int .i64 (A.length : Int), .int .i64 1] W fun e w' => ∃ v, e = .returned v ∧ Kd.S (Kd.slice 5 (Kd.int .u8)) 22 w' W.heap.size (fun _ => True) v (oM (zeroM A.length 1)) ∧ Below W.heap.size W w') := ⟨fun W => by
        obtain ⟨k, hk⟩ := (evZeros A.length 1 (by omega) (by omega)).rounds
        exact matrix_zeros.calls k _ _ _ W hk⟩
      have hown : Aside0 (∀ W, Below w.heap.size w W → Calls Try.prog 91 #[.slice A0 A.length c0] W fun e w' => ∃ v, e = .returned v ∧ Kd.S (Kd.slice 5 (Kd.int .u8)) 22 w' W.heap.size (fun _ => True) v (oM A) ∧ Below W.heap.size W w') := ⟨fun W hW => by
        obtain ⟨k, hk⟩ := (evOwn A (by omega) (fun i hi => by rw [hreg.2 i hi]; omega)).rounds
        have := matrix_own.calls k _ c0 (oM A) _ W (Kd.C_below hr0 hW) (by rw [oM_length]; exact hc0) hk
        rwa [oM_length] at this⟩
      have HR := Aside0.mk hinv
      have HG := Aside0.mk hreg
      have HP := Aside0.mk (show 0 < A.length ∧ A.length ≤ 255 ∧ 0 < (row A 0).length ∧ (row A 0).length ≤ 255 from ⟨p1, p2, p3, p4⟩)
      clear hinv hm hreg p1 p2 p3 p4 hr0
      go_enter Try.func70, Try.ntmps70
      go_wp2_with fail
      refine hchk.out.mono ?_
      rintro e w' ⟨rfl, ⟨nq, rfl⟩⟩
      clear hchk
      go_wp2_with fail
      refine (hown.out _ (pw_below_drewN (Below.refl _ _) nq)).mono ?_
      rintro e w1 ⟨vz, rfl, hSz, hb1⟩
      have hbz : Below w.heap.size w w1 := below_step (pw_below_drewN (Below.refl _ _) nq) hb1
      have HZ : Aside0 (Kd.S (Kd.slice 5 (Kd.int .u8)) 22 w1 w.heap.size (fun _ => True) vz (oM A)) := ⟨hSz⟩
      have HB1 := Aside0.mk hbz
      clear hown hSz hbz hb1
      go_wp2_with fail
      refine (hzs.out _).mono ?_
      rintro e w2 ⟨va, rfl, hSa, hb2⟩
      obtain ⟨ga, ca, gz, cz, rfl, rfl, hSt⟩ := St.make HZ.out hb2 hSa (below_size HB1.out) (zeroM_reg A.length 1) HG.out HP.out.1 (by decide) HP.out.2.2.1
      have hb3 := below_step HB1.out hb2
      have hred := reduce_calls w2 w.heap.size gz cz ga ca A.length (row A 0).length 1 A (zeroM A.length 1) hSt.symm HP.out.1 HP.out.2.2.1 (by decide) (by decide) HP.out.2.1 HP.out.2.2.2 (below_size hb3)
      have HRED := Aside0.mk hred
      have HB3 := Aside0.mk hb3
      clear hred hb3 hSt hSa hb2 HZ HB1 hzs
      generalize redF (row A 0).length 0 0 A (zeroM A.length 1) = R at *
      obtain ⟨cnt, Ra, Rz⟩ := R
      simp only at HR HRED
      go_wp2_with fail
      refine HRED.out.mono ?_
      rintro e w4 ⟨rfl, hst4, hb4⟩
      have HB4 := Aside0.mk (show Below w.heap.size w w4 from HB3.out.trans hb4)
      clear hst4 hb4 HRED
      go_wp2
      go_ret2
      obtain ⟨rfl, rfl⟩ := Prod.mk.inj HR.out
      exact ⟨rfl, HB4.out⟩
    · rw [if_neg hm] at hchk
      rw [if_neg hm] at hinv
      obtain ⟨rfl, rfl⟩ := Prod.mk.inj hinv
      clear hinv hm hr0
      go_enter Try.func70, Try.ntmps70
      go_wp2_with fail
      refine hchk.out.mono ?_
      rintro e w' ⟨rfl, ⟨nq, rfl⟩⟩
      clear hchk
      go_wp2
      go_ret2
      exact ⟨rfl, pw_below_drewN (Below.refl _ _) nq⟩
  · rw [if_neg hby] at h
    cases h
end Go.Proofs.Ytbogmlckbkogiaa.H
