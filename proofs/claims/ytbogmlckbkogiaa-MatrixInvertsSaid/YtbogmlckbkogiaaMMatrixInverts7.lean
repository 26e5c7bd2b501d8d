import Derived.Test.YtbogmlckbkogiaaMMatrixInverts1
import Derived.Test.YtbogmlckbkogiaaMMatrixInverts2
import Derived.Test.YtbogmlckbkogiaaMMatrixInverts3
import Derived.Test.YtbogmlckbkogiaaMMatrixInverts6
import Derived.Test.YtbogmlckbkogiaaMMatrixInverts5
import Derived.Test.YtbogmlckbkogiaaMMatrixInverts4
import Derived.Deep.Matrix
import Derived.SizedLaws
import Derived.ChangeSlices
-- Printed by a wrapper (wip/tools/myprint.py) of the kit's print, with hand-written contracts as given leaves.
namespace Go.Proofs.Ytbogmlckbkogiaa.P
open Go.Proofs.Ytbogmlckbkogiaa.Leaf
open Go.RowKit Go.Proofs.YtbogmlckbkogiaaW.PrintWords Go.Proofs.YtbogmlckbkogiaaW.PrintLast Go.Proofs.YtbogmlckbkogiaaW.PrintMore
attribute [local go_sem] max2_int min2_int max_two min_two max_three min_three max_four min_four   -- for this text's walks alone
set_option linter.unusedVariables false
set_option linter.unusedSimpArgs false

/-! ### mooringref02_Cauchy: function 72 -/
mutual
def mooringref02_Cauchy.j0 : Nat → Int → Int → Bool → Option ((List (List Int)) × Int)
  | 0, _, _, _ => none
  | k + 1, x0, x1, x27 => if x27 = true then (some (([] : List (List Int)), 1)) else ((mooringref02_Identity.f k x0).bind fun t101 => (mooringref02_Cauchy.l0 k x0 x1 t101 0))
def mooringref02_Cauchy.l0 : Nat → Int → Int → List (List Int) → Int → Option ((List (List Int)) × Int)
  | 0, _, _, _, _ => none
  | k + 1, x0, x1, x6, x7 => if x7 < x1 then (mooringref02_Cauchy.l1 k x0 x1 x6 x7 (([] : List Int)) 0) else (some (x6, 0))
def mooringref02_Cauchy.l1 : Nat → Int → Int → List (List Int) → Int → List Int → Int → Option ((List (List Int)) × Int)
  | 0, _, _, _, _, _, _ => none
  | k + 1, x0, x1, x6, x7, x8, x9 => if x9 < x0 then ((mooringref01_Inv.f k ((Go.bits .xor .i64 x7 (wrap64 (x1 + x9))) % 256)).bind fun bt107 => (if x8.length < 140737488355328 then (mooringref02_Cauchy.l1 k x0 x1 x6 x7 (x8 ++ [bt107.1]) (wrap64 (x9 + 1))) else (none))) else (if x6.length < 5864062014805 then (mooringref02_Cauchy.l0 k x0 x1 (x6 ++ [x8]) (wrap64 (x7 + 1))) else (none))
end
def mooringref02_Cauchy.f (k : Nat) (a0 : Int) (a1 : Int) : Option ((List (List Int)) × Int) := if a0 < 1 then (mooringref02_Cauchy.j0 k a0 a1 true) else (if a1 < 1 then (mooringref02_Cauchy.j0 k a0 a1 true) else (if a0 > 254 then (mooringref02_Cauchy.j0 k a0 a1 true) else (mooringref02_Cauchy.j0 k a0 a1 (decide (a1 > (wrap64 (255 - a0)))))))
theorem mooringref02_Cauchy.mono_l : ∀ k, (∀ y0 y1 y2, LeO (mooringref02_Cauchy.j0 k y0 y1 y2) (mooringref02_Cauchy.j0 (k + 1) y0 y1 y2)) ∧ (∀ y0 y1 y2 y3, LeO (mooringref02_Cauchy.l0 k y0 y1 y2 y3) (mooringref02_Cauchy.l0 (k + 1) y0 y1 y2 y3)) ∧ (∀ y0 y1 y2 y3 y4 y5, LeO (mooringref02_Cauchy.l1 k y0 y1 y2 y3 y4 y5) (mooringref02_Cauchy.l1 (k + 1) y0 y1 y2 y3 y4 y5))
  | 0 => ⟨fun _ _ _ r h => by simp [mooringref02_Cauchy.j0] at h, fun _ _ _ _ r h => by simp [mooringref02_Cauchy.l0] at h, fun _ _ _ _ _ _ r h => by simp [mooringref02_Cauchy.l1] at h⟩
  | k + 1 => by
    obtain ⟨ih0, ih1, ih2⟩ := mooringref02_Cauchy.mono_l k
    refine ⟨?_, ?_, ?_⟩
    · intro y0 y1 y2
      unfold mooringref02_Cauchy.j0
      repeat' first
      | (with_reducible exact ih0 _ _ _)
      | (with_reducible exact ih1 _ _ _ _)
      | (with_reducible exact ih2 _ _ _ _ _ _)
      | (with_reducible exact mooringref01_Inv.mono _ _)
      | (with_reducible exact mooringref02_Identity.mono _ _)
      | (with_reducible exact LeO.refl _)
      | (with_reducible exact LeO.none _)
      | (with_reducible refine LeO.ite ?_ ?_)
      | (with_reducible refine LeO.bind ?_ (fun _ => ?_))
      | exact ih0 _ _ _
      | exact ih1 _ _ _ _
      | exact ih2 _ _ _ _ _ _
      | exact mooringref01_Inv.mono _ _
      | exact mooringref02_Identity.mono _ _
      | exact LeO.none _
      | refine LeO.ite ?_ ?_
      | refine LeO.bind ?_ (fun _ => ?_)
    · intro y0 y1 y2 y3
      unfold mooringref02_Cauchy.l0
      repeat' first
      | (with_reducible exact ih0 _ _ _)
      | (with_reducible exact ih1 _ _ _ _)
      | (with_reducible exact ih2 _ _ _ _ _ _)
      | (with_reducible exact mooringref01_Inv.mono _ _)
      | (with_reducible exact mooringref02_Identity.mono _ _)
      | (with_reducible exact LeO.refl _)
      | (with_reducible exact LeO.none _)
      | (with_reducible refine LeO.ite ?_ ?_)
      | (with_reducible refine LeO.bind ?_ (fun _ => ?_))
      | exact ih0 _ _ _
      | exact ih1 _ _ _ _
      | exact ih2 _ _ _ _ _ _
      | exact mooringref01_Inv.mono _ _
      | exact mooringref02_Identity.mono _ _
      | exact LeO.none _
      | refine LeO.ite ?_ ?_
      | refine LeO.bind ?_ (fun _ => ?_)
    · intro y0 y1 y2 y3 y4 y5
      unfold mooringref02_Cauchy.l1
      repeat' first
      | (with_reducible exact ih0 _ _ _)
      | (with_reducible exact ih1 _ _ _ _)
      | (with_reducible exact ih2 _ _ _ _ _ _)
      | (with_reducible exact mooringref01_Inv.mono _ _)
      | (with_reducible exact mooringref02_Identity.mono _ _)
      | (with_reducible exact LeO.refl _)
      | (with_reducible exact LeO.none _)
      | (with_reducible refine LeO.ite ?_ ?_)
      | (with_reducible refine LeO.bind ?_ (fun _ => ?_))
      | exact ih0 _ _ _
      | exact ih1 _ _ _ _
      | exact ih2 _ _ _ _ _ _
      | exact mooringref01_Inv.mono _ _
      | exact mooringref02_Identity.mono _ _
      | exact LeO.none _
      | refine LeO.ite ?_ ?_
      | refine LeO.bind ?_ (fun _ => ?_)
theorem mooringref02_Cauchy.mono : ∀ a0 a1 k, LeO (mooringref02_Cauchy.f k a0 a1) (mooringref02_Cauchy.f (k + 1) a0 a1) := by
  intro a0 a1 k
  obtain ⟨ih0, ih1, ih2⟩ := mooringref02_Cauchy.mono_l k
  unfold mooringref02_Cauchy.f
  repeat' first
      | (with_reducible exact ih0 _ _ _)
      | (with_reducible exact ih1 _ _ _ _)
      | (with_reducible exact ih2 _ _ _ _ _ _)
      | (with_reducible exact mooringref01_Inv.mono _ _)
      | (with_reducible exact mooringref02_Identity.mono _ _)
      | (with_reducible exact LeO.refl _)
      | (with_reducible exact LeO.none _)
      | (with_reducible refine LeO.ite ?_ ?_)
      | (with_reducible refine LeO.bind ?_ (fun _ => ?_))
      | exact ih0 _ _ _
      | exact ih1 _ _ _ _
      | exact ih2 _ _ _ _ _ _
      | exact mooringref01_Inv.mono _ _
      | exact mooringref02_Identity.mono _ _
      | exact LeO.none _
      | refine LeO.ite ?_ ?_
      | refine LeO.bind ?_ (fun _ => ?_)
set_option maxHeartbeats 8000000 in
set_option maxRecDepth 100000 in
theorem mooringref02_Cauchy.calls (k : Nat) (a0 : Int) (a1 : Int) (r1 : List (List Int)) (r2 : Int) (w : World) (h : mooringref02_Cauchy.f k a0 a1 = some (r1, r2)) :
    Calls Try.prog 72 #[.int .i64 a0, .int .i64 a1] w fun e w' => ∃ v0_ : Value, e = .returned (.tuple #[v0_, .int .i64 r2]) ∧ Kd.S (Kd.slice 5 (Kd.int .u8)) 22 w' w.heap.size (fun _ => True) v0_ r1 ∧ Below w.heap.size w w' := by
  have HB := Aside0.mk (Below.refl w.heap.size w)
  have H : (if a0 < 1 then (mooringref02_Cauchy.j0 k a0 a1 true) else (if a1 < 1 then (mooringref02_Cauchy.j0 k a0 a1 true) else (if a0 > 254 then (mooringref02_Cauchy.j0 k a0 a1 true) else (mooringref02_Cauchy.j0 k a0 a1 (decide (a1 > (wrap64 (255 - a0)))))))) = some (r1, r2) := h
  clear h
  have HC3 := Aside0.mk H
  clear H
  go_enter Try.func72, Try.ntmps72
  go_upto_region 1 with (fail)
  go_cut [27] (fun v27 wc => ∃ (kq : Nat) (x27_2 : Bool), v27 = .bool x27_2 ∧ Aside0 (mooringref02_Cauchy.j0 kq a0 a1 x27_2 = some (r1, r2)) ∧ Aside0 (kq ≤ k) ∧ Aside0 (Below w.heap.size w wc))
  case first =>
    have H := HC3.out
    clear HC3
    by_cases c4 : a0 < 1
    · rw [if_pos c4] at H
      have c4b0 : decide (a0 < 1) = true := decide_eq_true c4
      clear c4
      (first | rw [c4b0] | (simp only [i64_w, i32_w]; rw [c4b0]) | skip)
      have H' := Aside0.mk H
      clear H
      go_wp2
      go_meet
      case rel => exact ⟨_, (true), (by first | rfl | (simp; done) | (simp [*]; done)), H', ⟨by first | omega | exact Nat.le_refl _⟩, ⟨by repeat (first | (with_reducible first | exact HB.out | apply below_alloc | apply pw_below_drewN | apply below_drew1) | exact HB.out)⟩⟩
    · rw [if_neg c4] at H
      have c4b0 : decide (a0 < 1) = false := decide_eq_false c4
      clear c4
      (first | rw [c4b0] | (simp only [i64_w, i32_w]; rw [c4b0]) | skip)
      by_cases c5 : a1 < 1
      · rw [if_pos c5] at H
        have c5b0 : decide (a1 < 1) = true := decide_eq_true c5
        clear c5
        have H' := Aside0.mk H
        clear H
        go_wp2
        go_meet
        case rel => exact ⟨_, (true), (by first | rfl | (simp; done) | (simp [*]; done)), H', ⟨by first | omega | exact Nat.le_refl _⟩, ⟨by repeat (first | (with_reducible first | exact HB.out | apply below_alloc | apply pw_below_drewN | apply below_drew1) | exact HB.out)⟩⟩
      · rw [if_neg c5] at H
        have c5b0 : decide (a1 < 1) = false := decide_eq_false c5
        clear c5
        by_cases c6 : a0 > 254
        · rw [if_pos c6] at H
          have c6b0 : decide (254 < a0) = true := decide_eq_true c6
          clear c6
          have H' := Aside0.mk H
          clear H
          go_wp2
          go_meet
          case rel => exact ⟨_, (true), (by first | rfl | (simp; done) | (simp [*]; done)), H', ⟨by first | omega | exact Nat.le_refl _⟩, ⟨by repeat (first | (with_reducible first | exact HB.out | apply below_alloc | apply pw_below_drewN | apply below_drew1) | exact HB.out)⟩⟩
        · rw [if_neg c6] at H
          have c6b0 : decide (254 < a0) = false := decide_eq_false c6
          clear c6
          have H' := Aside0.mk H
          clear H
          go_wp2
          go_meet
          case rel => exact ⟨_, (decide (a1 > (wrap64 (255 - a0)))), (by first | rfl | (simp; done) | (simp [*]; done)), H', ⟨by first | omega | exact Nat.le_refl _⟩, ⟨by repeat (first | (with_reducible first | exact HB.out | apply below_alloc | apply pw_below_drewN | apply below_drew1) | exact HB.out)⟩⟩
  case rest =>
    clear HC3
    try clear p2
    try clear c4
    try clear c4b0
    try clear c5
    try clear c5b0
    try clear c6
    try clear c6b0
    try clear p6
    obtain ⟨kq, x27_2, rfl, HA, HJ2, HB⟩ := hcut
    cases kq with
    | zero => exact absurd HA.out (by simp [mooringref02_Cauchy.j0])
    | succ kj2 =>
      have H := HA.out
      clear HA
      simp only [mooringref02_Cauchy.j0] at H
      by_cases c7 : x27_2 = true
      · subst c7
        have H1 : (some (([] : List (List Int)), 1)) = some (r1, r2) := by rw [if_pos rfl] at H; exact H
        clear H
        have H := H1
        clear H1
        simp only [Option.some.injEq, Prod.mk.injEq] at H
        obtain ⟨rfl, rfl⟩ := H
        go_wp2
        go_ret2
        exact ⟨_, by first | rfl | (simp [errW_none, errW_some] <;> rfl) | (simp [*, errW_none, errW_some] <;> rfl), by first | exact Kd.S_nil _ _ _ _ _ | exact Kd.N_nil _ _ _ _ _ | exact Kd.V_nil _ _ _ _ _ | exact Kd.Q_nil _ _ _ _ _ | exact Kd.R_nil _ _ _ _ _, by repeat (first | (with_reducible first | exact HB.out | apply below_alloc | apply pw_below_drewN | apply below_drew1) | exact HB.out)⟩
      · replace c7 := Bool.eq_false_iff.mpr c7
        subst c7
        have H1 : ((mooringref02_Identity.f kj2 a0).bind fun t101 => (mooringref02_Cauchy.l0 kj2 a0 a1 t101 0)) = some (r1, r2) := by rw [if_neg (show ¬ (false = true) by decide)] at H; exact H
        clear H
        have H := H1
        clear H1
        replace H := Option.bind_eq_some_iff.mp H
        obtain ⟨t101, A80, H⟩ := H
        replace H : (mooringref02_Cauchy.l0 kj2 a0 a1 t101 0) = some (r1, r2) := H
        have A8 := Aside0.mk A80
        clear A80
        have H' := Aside0.mk H
        clear H
        go_wp2_with (first | ((with_reducible refine gate_callee (f := 56) rfl ?_); refine goesL_ (some 29) rfl rfl Try.func56 (by kernel_rfl) rfl #[.int .i64 a0] rfl (by (try simp only [List.map_toArray, List.map_cons, List.map_nil]); first | done | rfl | (simp only [List.length_drop, List.length_take]; rfl)) ?_; (with_reducible refine (mooringref02_Identity.calls kj2 a0 t101 _ A8.out).mono ?_); rintro e w9 ⟨v102, rfl, ho0, hb⟩; refine ⟨_, rfl, ?_⟩; have n0_ := Aside0.mk (Kd.S_lower ho0 (below_size (by repeat (first | (with_reducible first | exact HB.out | apply below_alloc | apply pw_below_drewN | apply below_drew1) | exact HB.out)))); have n1_ := Aside0.mk (below_step (by repeat (first | (with_reducible first | exact HB.out | apply below_alloc | apply pw_below_drewN | apply below_drew1) | exact HB.out)) hb); clear HB; have HO103 := n0_; have HB := n1_; clear n0_ n1_; (try clear hb); (try clear hb2); (try clear hk); (try clear hi); (try clear ho0)))
        go_loopg [6, 7] kj2 (fun kq v6 v7 w' => ∃ (x6_2 : List (List Int)) (x7_2 : Int), v7 = .int .i64 x7_2 ∧ Aside0 (mooringref02_Cauchy.l0 kq a0 a1 x6_2 x7_2 = some (r1, r2)) ∧ Aside0 (kq ≤ kj2) ∧ Aside0 (Kd.S (Kd.slice 5 (Kd.int .u8)) 22 w' w.heap.size (fun _ => True) v6 x6_2) ∧ Aside0 (Below w.heap.size w w'))
        case atStart => exact ⟨(t101), (0), (by first | rfl | (simp; done) | (simp [*]; done)), H', ⟨Nat.le_refl _⟩, ⟨by (with_reducible repeat (first | apply Kd.S_alloc | apply Kd.S_drewN | apply Kd.S_drew)); exact HO103.out⟩, ⟨by repeat (first | (with_reducible first | exact HB.out | apply below_alloc | apply pw_below_drewN | apply below_drew1) | exact HB.out)⟩⟩
        case round =>
          clear H'
          try clear p2
          try clear c4
          try clear c4b0
          try clear c5
          try clear c5b0
          try clear c6
          try clear c6b0
          try clear p6
          try clear c7
          try clear p2
          try clear p6
          obtain ⟨x6_2, x7_2, rfl, HA, HK2, HO_6, HB⟩ := hrel
          cases gk with
          | zero => exact absurd HA.out (by simp [mooringref02_Cauchy.l0])
          | succ k2 =>
            have H := HA.out
            clear HA
            simp only [mooringref02_Cauchy.l0] at H
            by_cases c10 : x7_2 < a1
            · rw [if_pos c10] at H
              have c10b0 : decide (x7_2 < a1) = true := decide_eq_true c10
              clear c10
              obtain ⟨y104, hy104⟩ : ∃ y_ : List Int, y_ = (([] : List Int)) := ⟨_, rfl⟩
              replace H : (mooringref02_Cauchy.l1 k2 a0 a1 x6_2 x7_2 y104 0) = some (r1, r2) := by first | (rw [hy104]; with_reducible exact H) | (have H2_ := (Option.bind_some _ _).symm.trans H; rw [hy104]; with_reducible exact H2_) | (have H2_ := (Option.bind_some _ _).symm.trans H; with_reducible exact H2_) | with_reducible exact H | (rw [hy104]; exact H) | exact H
              have Ny104 := Aside0.mk hy104
              clear hy104
              have H' := Aside0.mk H
              clear H
              go_wp2_with (first | ((with_reducible refine gate_dst (N := 35) rfl ?_); refine Kd.R_lit (Kd.int .u8) _ 5 ?hg (N := 35) ?hd (xs := ([] : List Int)) (inner := []) (ok := fun _ => True) (okp := fun _ => True) ?hr ?hp (fun _ hk => hk) trivial (Below.refl _ _) (Nat.le_refl _) (by simp) ?_; (case hd => rfl); (case hg => rfl); (case hr => first | (go_simp; done) | (go_simp; rfl)); (case hp => exact (Reps.none _ _)); intro v105 w11 ho12 hb hg_ hnew_; clear hg_ hnew_; (first | rw [← Ny104.out] at ho12 | (simp only [Int.reduceToNat] at ho12; rw [← Ny104.out] at ho12)); have n0_ := Aside0.mk (Kd.S_elder' (by (with_reducible repeat (first | apply Kd.S_alloc | apply Kd.S_drewN | apply Kd.S_drew)); exact HO_6.out) (Kd.R_base ho12) hb); have n1_ := Aside0.mk (Kd.R_lower ho12 (below_size (by repeat (first | (with_reducible first | exact HB.out | apply below_alloc | apply pw_below_drewN | apply below_drew1) | exact HB.out)))); have n2_ := Aside0.mk (below_step (by repeat (first | (with_reducible first | exact HB.out | apply below_alloc | apply pw_below_drewN | apply below_drew1) | exact HB.out)) hb); clear HO_6; clear HB; have HO_6 := n0_; have HO106 := n1_; have HB := n2_; clear n0_ n1_ n2_; clear hb ho12))
              go_loopg [8, 9] k2 (fun kq v8 v9 w' => ∃ (x8_3 : List Int) (x9_3 : Int), v9 = .int .i64 x9_3 ∧ Aside0 (mooringref02_Cauchy.l1 kq a0 a1 x6_2 x7_2 x8_3 x9_3 = some (r1, r2)) ∧ Aside0 (kq ≤ k2) ∧ Aside0 (Kd.S (Kd.slice 5 (Kd.int .u8)) 22 w' w.heap.size (fun k_ => some k_ ≠ (v8 : Value).ownBlock) u6 x6_2) ∧ Aside0 (Kd.R (Kd.int .u8) 5 w' w.heap.size (fun _ => True) v8 x8_3) ∧ Aside0 (Below w.heap.size w w'))
              case atStart => exact ⟨(y104), (0), (by first | rfl | (simp; done) | (simp [*]; done)), H', ⟨Nat.le_refl _⟩, ⟨by (with_reducible repeat (first | apply Kd.S_alloc | apply Kd.S_drewN | apply Kd.S_drew)); exact Kd.S_mono HO_6.out (fun _ hk => hk.2)⟩, ⟨by (with_reducible repeat (first | apply Kd.R_alloc | apply Kd.R_drewN | apply Kd.R_drew)); exact HO106.out⟩, ⟨by repeat (first | (with_reducible first | exact HB.out | apply below_alloc | apply pw_below_drewN | apply below_drew1) | exact HB.out)⟩⟩
              case round =>
                clear H'
                try clear c1
                try clear p2
                try clear c4
                try clear c4b0
                try clear c5
                try clear c5b0
                try clear c6
                try clear c6b0
                try clear p6
                try clear c7
                try clear c10
                try clear c10b0
                try clear p2
                try clear p6
                obtain ⟨x8_3, x9_3, rfl, HA, HK3, HO_6, HO_8, HB⟩ := hrel
                cases gk with
                | zero => exact absurd HA.out (by simp [mooringref02_Cauchy.l1])
                | succ k3 =>
                  have H := HA.out
                  clear HA
                  simp only [mooringref02_Cauchy.l1] at H
                  by_cases c13 : x9_3 < a0
                  · rw [if_pos c13] at H
                    have c13b0 : decide (x9_3 < a0) = true := decide_eq_true c13
                    clear c13
                    replace H := Option.bind_eq_some_iff.mp H
                    obtain ⟨⟨t107, t108⟩, A140, H⟩ := H
                    replace H : (if x8_3.length < 140737488355328 then (mooringref02_Cauchy.l1 k3 a0 a1 x6_2 x7_2 (x8_3 ++ [t107]) (wrap64 (x9_3 + 1))) else (none)) = some (r1, r2) := H
                    have A14 := Aside0.mk A140
                    clear A140
                    by_cases c15 : x8_3.length < 140737488355328
                    · rw [if_pos c15] at H
                      have LMc15 := Aside0.mk c15
                      clear c15
                      obtain ⟨y109, hy109⟩ : ∃ y_ : List Int, y_ = (x8_3 ++ [t107]) := ⟨_, rfl⟩
                      replace H : (mooringref02_Cauchy.l1 k3 a0 a1 x6_2 x7_2 y109 (wrap64 (x9_3 + 1))) = some (r1, r2) := by first | (rw [hy109]; with_reducible exact H) | (have H2_ := (Option.bind_some _ _).symm.trans H; rw [hy109]; with_reducible exact H2_) | (have H2_ := (Option.bind_some _ _).symm.trans H; with_reducible exact H2_) | with_reducible exact H | (rw [hy109]; exact H) | exact H
                      have Ny109 := Aside0.mk hy109
                      clear hy109
                      have H' := Aside0.mk H
                      clear H
                      go_wp2_with (first | ((with_reducible refine gate_callee (f := 35) rfl ?_); refine goesL_ (some 48) rfl rfl Try.func35 (by kernel_rfl) rfl #[.int .u8 ((Go.bits .xor .i64 x7_2 (wrap64 (a1 + x9_3))) % 256)] rfl (by (try simp only [List.map_toArray, List.map_cons, List.map_nil]); first | done | rfl | (simp only [List.length_drop, List.length_take]; rfl)) ?_; (with_reducible refine (mooringref01_Inv.calls k3 ((Go.bits .xor .i64 x7_2 (wrap64 (a1 + x9_3))) % 256) t107 t108 _ A14.out).mono ?_); rintro e w' ⟨rfl, ⟨nd, rfl⟩⟩; refine ⟨_, rfl, ?_⟩) | ((with_reducible refine gate_builtin (b := .append) (xs := #[.tmp 51, .tmp 53]) rfl ?_); at_builtin; refine Kd.R_append (Kd.int .u8) (w0 := w) w.heap.size rfl (.tmp 51) (.tmp 53) 22 5 (.int .u8 0) 1 rfl Try.underlying22 info5 rfl (by decide) (by omega) u8 x8_3 t107 [.int .u8 t107] (fun _ => True) (fun _ => False) rfl rfl ?aP (fun _ hk => hk.elim) ?aF ?aO ?aB ?aS ?aL ?_; (case aP => exact rfl); (case aB => exact (by repeat (first | (with_reducible first | exact HB.out | apply below_alloc | apply pw_below_drewN | apply below_drew1) | exact HB.out))); (case aF => exact (fun _ _ => trivial)); (case aO => exact (by (with_reducible repeat (first | apply Kd.R_alloc | apply Kd.R_drewN | apply Kd.R_drew)); exact HO_8.out)); (case aS => exact (below_size (by repeat (first | (with_reducible first | exact HB.out | apply below_alloc | apply pw_below_drewN | apply below_drew1) | exact HB.out)))); (case aL => have := LMc15.out; omega); intro v110 w16 ho hb hg hat; rw [← Ny109.out] at ho; have n0_ := Aside0.mk (Kd.S_after (ok := (fun _ => True)) (by (with_reducible repeat (first | apply Kd.S_alloc | apply Kd.S_drewN | apply Kd.S_drew)); exact Kd.S_mono HO_6.out (fun _ hk => ⟨trivial, hk⟩)) hg hat); have n1_ := Aside0.mk (hb); have n2_ := Aside0.mk (ho); clear HO_6; clear HB; clear HO_8; have HO_6 := n0_; have HB := n1_; have HO111 := n2_; clear n0_ n1_ n2_; clear ho hb hg hat))
                      go_roundg k3
                      case measure => have := HJ2.out; have := HK2.out; have := HK3.out; omega
                      case rel => exact ⟨(y109), (wrap64 (x9_3 + 1)), (by first | rfl | (simp; done) | (simp [*]; done)), H', ⟨by have := HJ2.out; have := HK2.out; have := HK3.out; omega⟩, ⟨by (with_reducible repeat (first | apply Kd.S_alloc | apply Kd.S_drewN | apply Kd.S_drew)); exact Kd.S_mono HO_6.out (fun _ hk => hk.2)⟩, ⟨by (with_reducible repeat (first | apply Kd.R_alloc | apply Kd.R_drewN | apply Kd.R_drew)); exact HO111.out⟩, ⟨by repeat (first | (with_reducible first | exact HB.out | apply below_alloc | apply pw_below_drewN | apply below_drew1) | exact HB.out)⟩⟩
                    · rw [if_neg c15] at H
                      exact absurd H (by simp)
                  · rw [if_neg c13] at H
                    have c13b0 : decide (x9_3 < a0) = false := decide_eq_false c13
                    clear c13
                    by_cases c17 : x6_2.length < 5864062014805
                    · rw [if_pos c17] at H
                      have LMc17 := Aside0.mk c17
                      clear c17
                      obtain ⟨y112, hy112⟩ : ∃ y_ : List (List Int), y_ = (x6_2 ++ [x8_3]) := ⟨_, rfl⟩
                      replace H : (mooringref02_Cauchy.l0 k3 a0 a1 y112 (wrap64 (x7_2 + 1))) = some (r1, r2) := by first | (rw [hy112]; with_reducible exact H) | (have H2_ := (Option.bind_some _ _).symm.trans H; rw [hy112]; with_reducible exact H2_) | (have H2_ := (Option.bind_some _ _).symm.trans H; with_reducible exact H2_) | with_reducible exact H | (rw [hy112]; exact H) | exact H
                      have Ny112 := Aside0.mk hy112
                      clear hy112
                      have H' := Aside0.mk H
                      clear H
                      obtain ⟨Ao19, co19, eo19⟩ := Kd.R_slice HO_8.out
                      subst eo19
                      go_wp2_with (first | ((with_reducible refine gate_builtin (b := .append) (xs := #[.tmp 55, .tmp 57]) rfl ?_); at_builtin; refine Kd.S_append (Kd.slice 5 (Kd.int .u8)) (w0 := w) w.heap.size rfl (.tmp 55) (.tmp 57) 51 22 (.slice none 0 0) 24 rfl Try.underlying51 info22 rfl (by decide) (by omega) u6 x6_2 x8_3 [.slice Ao19 x8_3.length co19] (fun _ => True) (fun k_ => some k_ = (.slice Ao19 x8_3.length co19 : Value).ownBlock) rfl rfl ?aP (fun k_ hk_ => ((Kd.R_mono (ok' := fun k_ => ((fun _ => True)) k_ ∧ some k_ ≠ (u6 : Value).ownBlock) (Kd.R_apart' (HO_8.out) (Kd.S_typed HO_6.out) (by decide)) (fun k_ hk => ⟨trivial, hk.2⟩))).1 k_ hk_.symm) ?aF ?aO ?aB ?aS ?aL ?_; (case aP => exact Kd.M_row (Kd.R_mono (Kd.R_tight rfl (Kd.R_mono (ok' := fun k_ => ((fun _ => True)) k_ ∧ some k_ ≠ (u6 : Value).ownBlock) (Kd.R_apart' (HO_8.out) (Kd.S_typed HO_6.out) (by decide)) (fun k_ hk => ⟨trivial, hk.2⟩))) (fun _ h_ => h_))); (case aB => exact (by repeat (first | (with_reducible first | exact HB.out | apply below_alloc | apply pw_below_drewN | apply below_drew1) | exact HB.out))); (case aF => exact (fun _ _ => trivial)); (case aO => exact (by (with_reducible repeat (first | apply Kd.S_alloc | apply Kd.S_drewN | apply Kd.S_drew)); exact Kd.S_mono HO_6.out (fun k_ hk => ⟨trivial, fun e_ => hk e_⟩))); (case aS => exact (below_size (by repeat (first | (with_reducible first | exact HB.out | apply below_alloc | apply pw_below_drewN | apply below_drew1) | exact HB.out)))); (case aL => have := LMc17.out; omega); intro v113 w18 ho hb hg hat; rw [← Ny112.out] at ho; have n0_ := Aside0.mk (hb); have n1_ := Aside0.mk (ho); clear HB; clear HO_6; clear HO_8; have HB := n0_; have HO114 := n1_; clear n0_ n1_; clear ho hb hg hat))
                      go_roundg k3
                      case measure => have := HJ2.out; have := HK2.out; have := HK3.out; omega
                      case rel => exact ⟨(y112), (wrap64 (x7_2 + 1)), (by first | rfl | (simp; done) | (simp [*]; done)), H', ⟨by have := HJ2.out; have := HK2.out; have := HK3.out; omega⟩, ⟨by (with_reducible repeat (first | apply Kd.S_alloc | apply Kd.S_drewN | apply Kd.S_drew)); exact HO114.out⟩, ⟨by repeat (first | (with_reducible first | exact HB.out | apply below_alloc | apply pw_below_drewN | apply below_drew1) | exact HB.out)⟩⟩
                    · rw [if_neg c17] at H
                      exact absurd H (by simp)
            · rw [if_neg c10] at H
              have c10b0 : decide (x7_2 < a1) = false := decide_eq_false c10
              clear c10
              simp only [Option.some.injEq, Prod.mk.injEq] at H
              obtain ⟨rfl, rfl⟩ := H
              go_wp2
              go_ret2
              exact ⟨_, by first | rfl | (simp [errW_none, errW_some] <;> rfl) | (simp [*, errW_none, errW_some] <;> rfl), by (with_reducible repeat (first | apply Kd.S_alloc | apply Kd.S_drewN | apply Kd.S_drew)); exact HO_6.out, by repeat (first | (with_reducible first | exact HB.out | apply below_alloc | apply pw_below_drewN | apply below_drew1) | exact HB.out)⟩

end Go.Proofs.Ytbogmlckbkogiaa.P

-- Printed by a wrapper (wip/tools/myprint.py) of the kit's print, with hand-written contracts as given leaves.
namespace Go.Proofs.Ytbogmlckbkogiaa.P
open Go.Proofs.Ytbogmlckbkogiaa.Leaf
open Go.RowKit Go.Proofs.YtbogmlckbkogiaaW.PrintWords Go.Proofs.YtbogmlckbkogiaaW.PrintLast Go.Proofs.YtbogmlckbkogiaaW.PrintMore
attribute [local go_sem] max2_int min2_int max_two min_two max_three min_three max_four min_four   -- for this text's walks alone
set_option linter.unusedVariables false
set_option linter.unusedSimpArgs false

/-! ### matrix_Rows: function 69 -/
mutual
def matrix_Rows.j0 : Nat → List (List Int) → List Int → Bool → Option ((List (List Int)) × Int)
  | 0, _, _, _ => none
  | k + 1, x0, x1, x21 => if x21 = true then (some (([] : List (List Int)), 1)) else (matrix_Rows.l0 k x0 ([] : List (List Int)) x1 (x1.length : Int) 0)
def matrix_Rows.l0 : Nat → List (List Int) → List (List Int) → List Int → Int → Int → Option ((List (List Int)) × Int)
  | 0, _, _, _, _, _ => none
  | k + 1, x0, x6, x22, x23, x24 => if x24 < x23 then (if 0 ≤ x24 then (if x24 < (x22.length : Int) then (if (rd x22 x24) < 0 then (some (([] : List (List Int)), 1)) else (if (rd x22 x24) ≥ (x0.length : Int) then (some (([] : List (List Int)), 1)) else (if 0 ≤ (rd x22 x24) then (if (rd x22 x24) < (x0.length : Int) then ((slices_Clone_byte_byte.f (rd_L1 x0 (rd x22 x24))).bind fun t104 => (if x6.length < 5864062014805 then (matrix_Rows.l0 k x0 (x6 ++ [t104]) x22 x23 (wrap64 (x24 + 1))) else (none))) else (none)) else (none)))) else (none)) else (none)) else (some (x6, 0))
end
def matrix_Rows.f (k : Nat) (l0 : List (List Int)) (l1 : List Int) : Option ((List (List Int)) × Int) := (matrix_Check.f k l0).bind fun t101 => (if t101 = 0 then (if (l1.length : Int) = 0 then (matrix_Rows.j0 k l0 l1 true) else (matrix_Rows.j0 k l0 l1 (decide ((l1.length : Int) > 255)))) else (matrix_Rows.j0 k l0 l1 true))
theorem matrix_Rows.mono_l : ∀ k, (∀ y0 y1 y2, LeO (matrix_Rows.j0 k y0 y1 y2) (matrix_Rows.j0 (k + 1) y0 y1 y2)) ∧ (∀ y0 y1 y2 y3 y4, LeO (matrix_Rows.l0 k y0 y1 y2 y3 y4) (matrix_Rows.l0 (k + 1) y0 y1 y2 y3 y4))
  | 0 => ⟨fun _ _ _ r h => by simp [matrix_Rows.j0] at h, fun _ _ _ _ _ r h => by simp [matrix_Rows.l0] at h⟩
  | k + 1 => by
    obtain ⟨ih0, ih1⟩ := matrix_Rows.mono_l k
    refine ⟨?_, ?_⟩
    · intro y0 y1 y2
      unfold matrix_Rows.j0
      repeat' first
      | (with_reducible exact ih0 _ _ _)
      | (with_reducible exact ih1 _ _ _ _ _)
      | (with_reducible exact matrix_Check.mono _ _)
      | (with_reducible exact LeO.refl _)
      | (with_reducible exact LeO.none _)
      | (with_reducible refine LeO.ite ?_ ?_)
      | (with_reducible refine LeO.bind ?_ (fun _ => ?_))
      | exact ih0 _ _ _
      | exact ih1 _ _ _ _ _
      | exact matrix_Check.mono _ _
      | exact LeO.none _
      | refine LeO.ite ?_ ?_
      | refine LeO.bind ?_ (fun _ => ?_)
    · intro y0 y1 y2 y3 y4
      unfold matrix_Rows.l0
      repeat' first
      | (with_reducible exact ih0 _ _ _)
      | (with_reducible exact ih1 _ _ _ _ _)
      | (with_reducible exact matrix_Check.mono _ _)
      | (with_reducible exact LeO.refl _)
      | (with_reducible exact LeO.none _)
      | (with_reducible refine LeO.ite ?_ ?_)
      | (with_reducible refine LeO.bind ?_ (fun _ => ?_))
      | exact ih0 _ _ _
      | exact ih1 _ _ _ _ _
      | exact matrix_Check.mono _ _
      | exact LeO.none _
      | refine LeO.ite ?_ ?_
      | refine LeO.bind ?_ (fun _ => ?_)
theorem matrix_Rows.mono : ∀ a0 a1 k, LeO (matrix_Rows.f k a0 a1) (matrix_Rows.f (k + 1) a0 a1) := by
  intro a0 a1 k
  obtain ⟨ih0, ih1⟩ := matrix_Rows.mono_l k
  unfold matrix_Rows.f
  repeat' first
      | (with_reducible exact ih0 _ _ _)
      | (with_reducible exact ih1 _ _ _ _ _)
      | (with_reducible exact matrix_Check.mono _ _)
      | (with_reducible exact LeO.refl _)
      | (with_reducible exact LeO.none _)
      | (with_reducible refine LeO.ite ?_ ?_)
      | (with_reducible refine LeO.bind ?_ (fun _ => ?_))
      | exact ih0 _ _ _
      | exact ih1 _ _ _ _ _
      | exact matrix_Check.mono _ _
      | exact LeO.none _
      | refine LeO.ite ?_ ?_
      | refine LeO.bind ?_ (fun _ => ?_)
set_option maxHeartbeats 8000000 in
set_option maxRecDepth 100000 in
theorem matrix_Rows.calls (k : Nat) (A0 : Option Addr) (c0 : Nat) (l0 : List (List Int)) (A1 : Option Addr) (c1 : Nat) (l1 : List Int) (r1 : List (List Int)) (r2 : Int) (w : World) (hr0 : Kd.C (Kd.slice 5 (Kd.int .u8)) w A0 l0.length l0) (hc0 : l0.length ≤ c0) (hr1 : Kd.C (Kd.int .i64) w A1 l1.length l1) (hc1 : l1.length ≤ c1) (h : matrix_Rows.f k l0 l1 = some (r1, r2)) :
    Calls Try.prog 69 #[.slice A0 l0.length c0, .slice A1 l1.length c1] w fun e w' => ∃ v0_ : Value, e = .returned (.tuple #[v0_, .int .i64 r2]) ∧ Kd.S (Kd.slice 5 (Kd.int .u8)) 22 w' w.heap.size (fun _ => True) v0_ r1 ∧ Below w.heap.size w w' := by
  have HR0 := Aside0.mk hr0
  have HC0 := Aside0.mk hc0
  clear hr0 hc0
  have HR1 := Aside0.mk hr1
  have HC1 := Aside0.mk hc1
  clear hr1 hc1
  have HB := Aside0.mk (Below.refl w.heap.size w)
  have H : ((matrix_Check.f k l0).bind fun t101 => (if t101 = 0 then (if (l1.length : Int) = 0 then (matrix_Rows.j0 k l0 l1 true) else (matrix_Rows.j0 k l0 l1 (decide ((l1.length : Int) > 255)))) else (matrix_Rows.j0 k l0 l1 true))) = some (r1, r2) := h
  clear h
  have HC3 := Aside0.mk H
  clear H
  go_enter Try.func69, Try.ntmps69
  go_upto_region 1 with (fail)
  go_cut [21] (fun v21 wc => ∃ (kq : Nat) (x21_2 : Bool), v21 = .bool x21_2 ∧ Aside0 (matrix_Rows.j0 kq l0 l1 x21_2 = some (r1, r2)) ∧ Aside0 (kq ≤ k) ∧ Aside0 (Below w.heap.size w wc))
  case first =>
    have H := HC3.out
    clear HC3
    replace H := Option.bind_eq_some_iff.mp H
    obtain ⟨t101, A40, H⟩ := H
    replace H : (if t101 = 0 then (if (l1.length : Int) = 0 then (matrix_Rows.j0 k l0 l1 true) else (matrix_Rows.j0 k l0 l1 (decide ((l1.length : Int) > 255)))) else (matrix_Rows.j0 k l0 l1 true)) = some (r1, r2) := H
    have A4 := Aside0.mk A40
    clear A40
    by_cases c5 : t101 = 0
    · rw [if_pos c5] at H
      have c5b0 : (t101 == 0) = true := beq_iff_eq.mpr c5
      have c5b1 : (t101 != 0) = false := bne_eq_false_iff_eq.mpr c5
      clear c5
      (first | rw [c5b0] | (simp only [i64_w, i32_w]; rw [c5b0]) | skip)
      by_cases c6 : (l1.length : Int) = 0
      · rw [if_pos c6] at H
        have c6b0 : ((l1.length : Int) == 0) = true := beq_iff_eq.mpr c6
        have c6b1 : ((l1.length : Int) != 0) = false := bne_eq_false_iff_eq.mpr c6
        clear c6
        have H' := Aside0.mk H
        clear H
        go_wp2_with (first | ((with_reducible refine gate_callee (f := 65) rfl ?_); refine goesL_ (some 10) rfl rfl Try.func65 (by kernel_rfl) rfl #[.slice A0 l0.length c0] rfl (by (try simp only [List.map_toArray, List.map_cons, List.map_nil]); first | done | rfl | (simp only [List.length_drop, List.length_take]; rfl)) ?_; (with_reducible refine (matrix_Check.calls k _ _ l0 t101 _ ?side1 ?side2 A4.out).mono ?_); (case side1 => repeat (first | exact (Kd.C_below HR0.out HB.out) | (with_reducible refine Kd.C_alloc ?_ _) | (with_reducible refine Kd.C_drewN ?_ _) | (with_reducible refine Kd.C_drew ?_))); (case side2 => exact HC0.out); rintro e w' ⟨rfl, ⟨nd, rfl⟩⟩; refine ⟨_, rfl, ?_⟩))
        go_meet
        case rel => exact ⟨_, (true), (by first | rfl | (simp; done) | (simp [*]; done)), H', ⟨by first | omega | exact Nat.le_refl _⟩, ⟨by repeat (first | (with_reducible first | exact HB.out | apply below_alloc | apply pw_below_drewN | apply below_drew1) | exact HB.out)⟩⟩
      · rw [if_neg c6] at H
        have c6b0 : ((l1.length : Int) == 0) = false := beq_eq_false_iff_ne.mpr c6
        have c6b1 : ((l1.length : Int) != 0) = true := bne_iff_ne.mpr c6
        have c6b2 : ¬ (l1 = []) := fun h_ => c6 (by rw [h_]; rfl)
        have H' := Aside0.mk H
        clear H
        go_wp2_with (first | ((with_reducible refine gate_callee (f := 65) rfl ?_); refine goesL_ (some 10) rfl rfl Try.func65 (by kernel_rfl) rfl #[.slice A0 l0.length c0] rfl (by (try simp only [List.map_toArray, List.map_cons, List.map_nil]); first | done | rfl | (simp only [List.length_drop, List.length_take]; rfl)) ?_; (with_reducible refine (matrix_Check.calls k _ _ l0 t101 _ ?side1 ?side2 A4.out).mono ?_); (case side1 => repeat (first | exact (Kd.C_below HR0.out HB.out) | (with_reducible refine Kd.C_alloc ?_ _) | (with_reducible refine Kd.C_drewN ?_ _) | (with_reducible refine Kd.C_drew ?_))); (case side2 => exact HC0.out); rintro e w' ⟨rfl, ⟨nd, rfl⟩⟩; refine ⟨_, rfl, ?_⟩))
        go_meet
        case rel => exact ⟨_, (decide ((l1.length : Int) > 255)), (by first | rfl | (simp; done) | (simp [*]; done)), H', ⟨by first | omega | exact Nat.le_refl _⟩, ⟨by repeat (first | (with_reducible first | exact HB.out | apply below_alloc | apply pw_below_drewN | apply below_drew1) | exact HB.out)⟩⟩
    · rw [if_neg c5] at H
      have c5b0 : (t101 == 0) = false := beq_eq_false_iff_ne.mpr c5
      have c5b1 : (t101 != 0) = true := bne_iff_ne.mpr c5
      (first | rw [c5b0] | (simp only [i64_w, i32_w]; rw [c5b0]) | skip)
      have H' := Aside0.mk H
      clear H
      go_wp2_with (first | ((with_reducible refine gate_callee (f := 65) rfl ?_); refine goesL_ (some 10) rfl rfl Try.func65 (by kernel_rfl) rfl #[.slice A0 l0.length c0] rfl (by (try simp only [List.map_toArray, List.map_cons, List.map_nil]); first | done | rfl | (simp only [List.length_drop, List.length_take]; rfl)) ?_; (with_reducible refine (matrix_Check.calls k _ _ l0 t101 _ ?side1 ?side2 A4.out).mono ?_); (case side1 => repeat (first | exact (Kd.C_below HR0.out HB.out) | (with_reducible refine Kd.C_alloc ?_ _) | (with_reducible refine Kd.C_drewN ?_ _) | (with_reducible refine Kd.C_drew ?_))); (case side2 => exact HC0.out); rintro e w' ⟨rfl, ⟨nd, rfl⟩⟩; refine ⟨_, rfl, ?_⟩))
      go_meet
      case rel => exact ⟨_, (true), (by first | rfl | (simp; done) | (simp [*]; done)), H', ⟨by first | omega | exact Nat.le_refl _⟩, ⟨by repeat (first | (with_reducible first | exact HB.out | apply below_alloc | apply pw_below_drewN | apply below_drew1) | exact HB.out)⟩⟩
  case rest =>
    clear HC3
    try clear c1
    try clear p2
    try clear c5
    try clear c5b0
    try clear c5b1
    try clear c6
    try clear c6b0
    try clear c6b1
    try clear c6b2
    obtain ⟨kq, x21_2, rfl, HA, HJ2, HB⟩ := hcut
    cases kq with
    | zero => exact absurd HA.out (by simp [matrix_Rows.j0])
    | succ kj2 =>
      have H := HA.out
      clear HA
      simp only [matrix_Rows.j0] at H
      by_cases c7 : x21_2 = true
      · subst c7
        have H1 : (some (([] : List (List Int)), 1)) = some (r1, r2) := by rw [if_pos rfl] at H; exact H
        clear H
        have H := H1
        clear H1
        simp only [Option.some.injEq, Prod.mk.injEq] at H
        obtain ⟨rfl, rfl⟩ := H
        go_wp2
        go_ret2
        exact ⟨_, by first | rfl | (simp [errW_none, errW_some] <;> rfl) | (simp [*, errW_none, errW_some] <;> rfl), by first | exact Kd.S_nil _ _ _ _ _ | exact Kd.N_nil _ _ _ _ _ | exact Kd.V_nil _ _ _ _ _ | exact Kd.Q_nil _ _ _ _ _ | exact Kd.R_nil _ _ _ _ _, by repeat (first | (with_reducible first | exact HB.out | apply below_alloc | apply pw_below_drewN | apply below_drew1) | exact HB.out)⟩
      · replace c7 := Bool.eq_false_iff.mpr c7
        subst c7
        have H1 : (matrix_Rows.l0 kj2 l0 ([] : List (List Int)) l1 (l1.length : Int) 0) = some (r1, r2) := by rw [if_neg (show ¬ (false = true) by decide)] at H; exact H
        clear H
        have H := H1
        clear H1
        have H' := Aside0.mk H
        clear H
        go_wp2
        go_loopg [6, 24] kj2 (fun kq v6 v24 w' => ∃ (x6_2 : List (List Int)) (x24_2 : Int), v24 = .int .i64 x24_2 ∧ Aside0 (matrix_Rows.l0 kq l0 x6_2 l1 (l1.length : Int) x24_2 = some (r1, r2)) ∧ Aside0 (kq ≤ kj2) ∧ Aside0 (Kd.S (Kd.slice 5 (Kd.int .u8)) 22 w' w.heap.size (fun _ => True) v6 x6_2) ∧ Aside0 (Below w.heap.size w w'))
        case atStart => exact ⟨(([] : List (List Int))), (0), (by first | rfl | (simp; done) | (simp [*]; done)), H', ⟨Nat.le_refl _⟩, ⟨by first | exact Kd.S_nil _ _ _ _ _ | exact Kd.N_nil _ _ _ _ _ | exact Kd.V_nil _ _ _ _ _ | exact Kd.Q_nil _ _ _ _ _ | exact Kd.R_nil _ _ _ _ _⟩, ⟨by repeat (first | (with_reducible first | exact HB.out | apply below_alloc | apply pw_below_drewN | apply below_drew1) | exact HB.out)⟩⟩
        case round =>
          clear H'
          try clear c1
          try clear p2
          try clear c5
          try clear c5b0
          try clear c5b1
          try clear c6
          try clear c6b0
          try clear c6b1
          try clear c6b2
          try clear c7
          try clear p2
          obtain ⟨x6_2, x24_2, rfl, HA, HK2, HO_6, HB⟩ := hrel
          cases gk with
          | zero => exact absurd HA.out (by simp [matrix_Rows.l0])
          | succ k2 =>
            have H := HA.out
            clear HA
            simp only [matrix_Rows.l0] at H
            by_cases c8 : x24_2 < (l1.length : Int)
            · rw [if_pos c8] at H
              have c8b0 : decide (x24_2 < (l1.length : Int)) = true := decide_eq_true c8
              clear c8
              by_cases c9 : 0 ≤ x24_2
              · rw [if_pos c9] at H
                have c9b0 : decide (0 ≤ x24_2) = true := decide_eq_true c9
                clear c9
                by_cases c10 : x24_2 < (l1.length : Int)
                · rw [if_pos c10] at H
                  have c10b0 : decide (x24_2 < (l1.length : Int)) = true := decide_eq_true c10
                  clear c10
                  by_cases c11 : (rd l1 x24_2) < 0
                  · rw [if_pos c11] at H
                    have c11b0 : decide ((rd l1 x24_2) < 0) = true := decide_eq_true c11
                    clear c11
                    simp only [Option.some.injEq, Prod.mk.injEq] at H
                    obtain ⟨rfl, rfl⟩ := H
                    have p102 : 0 ≤ (x24_2 : Int) := of_decide_eq_true (by first | (with_reducible assumption) | assumption)
                    have q102 : x24_2 < (l1.length : Int) := of_decide_eq_true (by first | (with_reducible assumption) | assumption)
                    obtain ⟨ad102, e102, hx102_0⟩ := Kd.at_int HR1.out x24_2 p102 q102
                    cases e102
                    replace hx102_0 := (HB.out.cell (World.block_lt_of_cell? w _ hx102_0)).trans hx102_0
                    replace p102 := eq_true p102
                    replace q102 := eq_true q102
                    go_wp2
                    go_ret2
                    exact ⟨_, by first | rfl | (simp [errW_none, errW_some] <;> rfl) | (simp [*, errW_none, errW_some] <;> rfl), by first | exact Kd.S_nil _ _ _ _ _ | exact Kd.N_nil _ _ _ _ _ | exact Kd.V_nil _ _ _ _ _ | exact Kd.Q_nil _ _ _ _ _ | exact Kd.R_nil _ _ _ _ _, by repeat (first | (with_reducible first | exact HB.out | apply below_alloc | apply pw_below_drewN | apply below_drew1) | exact HB.out)⟩
                  · rw [if_neg c11] at H
                    have c11b0 : decide ((rd l1 x24_2) < 0) = false := decide_eq_false c11
                    clear c11
                    by_cases c12 : (rd l1 x24_2) ≥ (l0.length : Int)
                    · rw [if_pos c12] at H
                      have c12b0 : decide ((l0.length : Int) ≤ (rd l1 x24_2)) = true := decide_eq_true c12
                      clear c12
                      simp only [Option.some.injEq, Prod.mk.injEq] at H
                      obtain ⟨rfl, rfl⟩ := H
                      have p102 : 0 ≤ (x24_2 : Int) := of_decide_eq_true (by first | (with_reducible assumption) | assumption)
                      have q102 : x24_2 < (l1.length : Int) := of_decide_eq_true (by first | (with_reducible assumption) | assumption)
                      obtain ⟨ad102, e102, hx102_0⟩ := Kd.at_int HR1.out x24_2 p102 q102
                      cases e102
                      replace hx102_0 := (HB.out.cell (World.block_lt_of_cell? w _ hx102_0)).trans hx102_0
                      replace p102 := eq_true p102
                      replace q102 := eq_true q102
                      go_wp2
                      go_ret2
                      exact ⟨_, by first | rfl | (simp [errW_none, errW_some] <;> rfl) | (simp [*, errW_none, errW_some] <;> rfl), by first | exact Kd.S_nil _ _ _ _ _ | exact Kd.N_nil _ _ _ _ _ | exact Kd.V_nil _ _ _ _ _ | exact Kd.Q_nil _ _ _ _ _ | exact Kd.R_nil _ _ _ _ _, by repeat (first | (with_reducible first | exact HB.out | apply below_alloc | apply pw_below_drewN | apply below_drew1) | exact HB.out)⟩
                    · rw [if_neg c12] at H
                      have c12b0 : decide ((l0.length : Int) ≤ (rd l1 x24_2)) = false := decide_eq_false c12
                      clear c12
                      by_cases c13 : 0 ≤ (rd l1 x24_2)
                      · rw [if_pos c13] at H
                        have c13b0 : decide (0 ≤ (rd l1 x24_2)) = true := decide_eq_true c13
                        clear c13
                        by_cases c14 : (rd l1 x24_2) < (l0.length : Int)
                        · rw [if_pos c14] at H
                          have c14b0 : decide ((rd l1 x24_2) < (l0.length : Int)) = true := decide_eq_true c14
                          clear c14
                          replace H := Option.bind_eq_some_iff.mp H
                          obtain ⟨t104, A150, H⟩ := H
                          replace H : (if x6_2.length < 5864062014805 then (matrix_Rows.l0 k2 l0 (x6_2 ++ [t104]) l1 (l1.length : Int) (wrap64 (x24_2 + 1))) else (none)) = some (r1, r2) := H
                          have A15 := Aside0.mk A150
                          clear A150
                          by_cases c16 : x6_2.length < 5864062014805
                          · rw [if_pos c16] at H
                            have LMc16 := Aside0.mk c16
                            clear c16
                            obtain ⟨y107, hy107⟩ : ∃ y_ : List (List Int), y_ = (x6_2 ++ [t104]) := ⟨_, rfl⟩
                            replace H : (matrix_Rows.l0 k2 l0 y107 l1 (l1.length : Int) (wrap64 (x24_2 + 1))) = some (r1, r2) := by first | (rw [hy107]; with_reducible exact H) | (have H2_ := (Option.bind_some _ _).symm.trans H; rw [hy107]; with_reducible exact H2_) | (have H2_ := (Option.bind_some _ _).symm.trans H; with_reducible exact H2_) | with_reducible exact H | (rw [hy107]; exact H) | exact H
                            have Ny107 := Aside0.mk hy107
                            clear hy107
                            have H' := Aside0.mk H
                            clear H
                            have p102 : 0 ≤ (x24_2 : Int) := of_decide_eq_true (by first | (with_reducible assumption) | assumption)
                            have q102 : x24_2 < (l1.length : Int) := of_decide_eq_true (by first | (with_reducible assumption) | assumption)
                            obtain ⟨ad102, e102, hx102_0⟩ := Kd.at_int HR1.out x24_2 p102 q102
                            cases e102
                            replace hx102_0 := (HB.out.cell (World.block_lt_of_cell? w _ hx102_0)).trans hx102_0
                            replace p102 := eq_true p102
                            replace q102 := eq_true q102
                            have p103 : 0 ≤ ((rd l1 x24_2) : Int) := of_decide_eq_true (by first | (with_reducible assumption) | assumption)
                            have q103 : (rd l1 x24_2) < (l0.length : Int) := of_decide_eq_true (by first | (with_reducible assumption) | assumption)
                            obtain ⟨ad103, A103_0, c103_0, e103, hx103_0, hl103_0, hi103_0⟩ := at_L1 HR0.out (rd l1 x24_2) p103 q103
                            cases e103
                            replace hx103_0 := (HB.out.cell (World.block_lt_of_cell? w _ hx103_0)).trans hx103_0
                            have HR103_0 := Aside0.mk hi103_0
                            have HC103_0 := Aside0.mk hl103_0
                            clear hi103_0 hl103_0
                            replace p103 := eq_true p103
                            replace q103 := eq_true q103
                            go_wp2_with (first | ((with_reducible refine gate_callee (f := 89) rfl ?_); refine goesL_ (some 41) rfl rfl Try.func89 (by kernel_rfl) rfl #[.slice A103_0 (rd_L1 l0 (rd l1 x24_2)).length c103_0] rfl (by (try simp only [List.map_toArray, List.map_cons, List.map_nil]); first | done | rfl | (simp only [List.length_drop, List.length_take]; rfl)) ?_; (with_reducible refine (slices_Clone_byte_byte.calls _ _ (rd_L1 l0 (rd l1 x24_2)) t104 _ ?side1 ?side2 A15.out).mono ?_); (case side1 => repeat (first | exact (Kd.C_below HR103_0.out HB.out) | (with_reducible refine Kd.C_alloc ?_ _) | (with_reducible refine Kd.C_drewN ?_ _) | (with_reducible refine Kd.C_drew ?_))); (case side2 => exact HC103_0.out); rintro e w17 ⟨v105, rfl, ho0, hb⟩; refine ⟨_, rfl, ?_⟩; have n0_ := Aside0.mk (Kd.S_elder' (by (with_reducible repeat (first | apply Kd.S_alloc | apply Kd.S_drewN | apply Kd.S_drew)); exact HO_6.out) (Kd.R_base ho0) hb); have n1_ := Aside0.mk (Kd.R_lower ho0 (below_size (by repeat (first | (with_reducible first | exact HB.out | apply below_alloc | apply pw_below_drewN | apply below_drew1) | exact HB.out)))); have n2_ := Aside0.mk (below_step (by repeat (first | (with_reducible first | exact HB.out | apply below_alloc | apply pw_below_drewN | apply below_drew1) | exact HB.out)) hb); clear HO_6; clear HB; have HO_6 := n0_; have HO106 := n1_; have HB := n2_; clear n0_ n1_ n2_; (try clear hb); (try clear hb2); (try clear hk); (try clear hi); (try clear ho0); obtain ⟨Ao19, co19, eo19⟩ := Kd.R_slice HO106.out; subst eo19) | ((with_reducible refine gate_builtin (b := .append) (xs := #[.tmp 36, .tmp 42]) rfl ?_); (try (refine gate_guard (by rfl) ?_; dsimp only)); at_builtin; refine Kd.S_append (Kd.slice 5 (Kd.int .u8)) (w0 := w) w.heap.size rfl (.tmp 36) (.tmp 42) 51 22 (.slice none 0 0) 24 rfl Try.underlying51 info22 rfl (by decide) (by omega) u6 x6_2 t104 [.slice Ao19 t104.length co19] (fun _ => True) (fun k_ => some k_ = (.slice Ao19 t104.length co19 : Value).ownBlock) rfl rfl ?aP (fun k_ hk_ => ((Kd.R_mono (ok' := fun k_ => ((fun _ => True)) k_ ∧ some k_ ≠ (u6 : Value).ownBlock) (Kd.R_apart' (HO106.out) (Kd.S_typed HO_6.out) (by decide)) (fun k_ hk => ⟨trivial, hk.2⟩))).1 k_ hk_.symm) ?aF ?aO ?aB ?aS ?aL ?_; (case aP => exact Kd.M_row (Kd.R_mono (Kd.R_tight rfl (Kd.R_mono (ok' := fun k_ => ((fun _ => True)) k_ ∧ some k_ ≠ (u6 : Value).ownBlock) (Kd.R_apart' (HO106.out) (Kd.S_typed HO_6.out) (by decide)) (fun k_ hk => ⟨trivial, hk.2⟩))) (fun _ h_ => h_))); (case aB => exact (by repeat (first | (with_reducible first | exact HB.out | apply below_alloc | apply pw_below_drewN | apply below_drew1) | exact HB.out))); (case aF => exact (fun _ _ => trivial)); (case aO => exact (by (with_reducible repeat (first | apply Kd.S_alloc | apply Kd.S_drewN | apply Kd.S_drew)); exact Kd.S_mono HO_6.out (fun k_ hk => ⟨trivial, fun e_ => hk.2 e_⟩))); (case aS => exact (below_size (by repeat (first | (with_reducible first | exact HB.out | apply below_alloc | apply pw_below_drewN | apply below_drew1) | exact HB.out)))); (case aL => have := LMc16.out; omega); intro v108 w18 ho hb hg hat; rw [← Ny107.out] at ho; have n0_ := Aside0.mk (hb); have n1_ := Aside0.mk (ho); clear HB; clear HO_6; clear HO106; have HB := n0_; have HO109 := n1_; clear n0_ n1_; clear ho hb hg hat))
                            go_roundg k2
                            case measure => have := HJ2.out; have := HK2.out; omega
                            case rel => exact ⟨(y107), (wrap64 (x24_2 + 1)), (by first | rfl | (simp; done) | (simp [*]; done)), H', ⟨by have := HJ2.out; have := HK2.out; omega⟩, ⟨by (with_reducible repeat (first | apply Kd.S_alloc | apply Kd.S_drewN | apply Kd.S_drew)); exact HO109.out⟩, ⟨by repeat (first | (with_reducible first | exact HB.out | apply below_alloc | apply pw_below_drewN | apply below_drew1) | exact HB.out)⟩⟩
                          · rw [if_neg c16] at H
                            exact absurd H (by simp)
                        · rw [if_neg c14] at H
                          exact absurd H (by simp)
                      · rw [if_neg c13] at H
                        exact absurd H (by simp)
                · rw [if_neg c10] at H
                  exact absurd H (by simp)
              · rw [if_neg c9] at H
                exact absurd H (by simp)
            · rw [if_neg c8] at H
              have c8b0 : decide (x24_2 < (l1.length : Int)) = false := decide_eq_false c8
              clear c8
              simp only [Option.some.injEq, Prod.mk.injEq] at H
              obtain ⟨rfl, rfl⟩ := H
              go_wp2
              go_ret2
              exact ⟨_, by first | rfl | (simp [errW_none, errW_some] <;> rfl) | (simp [*, errW_none, errW_some] <;> rfl), by (with_reducible repeat (first | apply Kd.S_alloc | apply Kd.S_drewN | apply Kd.S_drew)); exact HO_6.out, by repeat (first | (with_reducible first | exact HB.out | apply below_alloc | apply pw_below_drewN | apply below_drew1) | exact HB.out)⟩

end Go.Proofs.Ytbogmlckbkogiaa.P

/- What Cauchy and Rows come to, in the program and in the reference. Conditions: told at each. -/
namespace Go.Proofs.Ytbogmlckbkogiaa.Red
open Go.RowKit Go.Proofs.YtbogmlckbkogiaaW.PrintWords Go.Proofs.Ytbogmlckbkogiaa.Leaf Go.Proofs.Ytbogmlckbkogiaa.Gf Go.Proofs.Ytbogmlckbkogiaa.H Go.Proofs.Ytbogmlckbkogiaa.Mx Go.Proofs.Ytbogmlckbkogiaa.P
set_option linter.unusedVariables false
set_option linter.unusedSimpArgs false
def cauM (k m : Nat) : Mat := matF (k + m) k (cau k m)
def cauR (a b : Int) : List (List Int) × Int := if 1 ≤ a ∧ 1 ≤ b ∧ b ≤ 255 - a then (oM (cauM a.toNat b.toNat), 0) else ([], 1)
theorem byte_nat (v : Nat) : ((v : Int) % 256) = ofB (BitVec.ofNat 8 v) := by
  unfold ofB
  rw [BitVec.toNat_ofNat]
  omega
/-- A row of the code's matrix on its way. -/
def caR (k m i j : Nat) : List B := (List.range k).map fun b => if b < j then cau k m (k + i) b else 0#8
theorem caR_set (k m i j : Nat) (hj : j < k) : (caR k m i j).set j (inv (BitVec.ofNat 8 i ^^^ BitVec.ofNat 8 (m + j))) = caR k m i (j + 1) := by
  refine ext0 (by simp [caR]) fun b hb => ?_
  rw [List.length_set] at hb
  have hb' : b < k := by simpa [caR] using hb
  have e : ∀ j', at0 (caR k m i j') b = if b < j' then cau k m (k + i) b else 0#8 := fun j' => at0_map _ _ _ hb'
  rw [at0_set _ _ _ _ (by simpa [caR] using hj), e, e]
  by_cases e1 : j = b
  · subst e1
    rw [if_pos rfl, if_pos (by omega)]
    unfold cau
    rw [if_neg (by omega), show k + i - k = i by omega]
  · rw [if_neg e1]
    by_cases e2 : b < j
    · rw [if_pos e2, if_pos (by omega)]
    · rw [if_neg e2, if_neg (by omega)]
theorem caR_all (k m i : Nat) : caR k m i k = (List.range k).map (cau k m (k + i)) := List.map_congr_left fun b hb => if_pos (List.mem_range.1 hb)
theorem cau_next (k m i : Nat) : matF (k + i) k (cau k m) ++ [(List.range k).map (cau k m (k + i))] = matF (k + (i + 1)) k (cau k m) := by
  unfold matF; rw [show k + (i + 1) = (k + i) + 1 by omega, List.range_succ, List.map_append]; rfl
theorem cauchy_l1 (k m : Nat) (hk : k + m ≤ 255) (r : List (List Int) × Int) (i : Nat) (hi : i < m) (hnext : Ev (fun f => matrix_Cauchy.l0 f (k : Int) (m : Int) (oM (matF (k + (i + 1)) k (cau k m))) (m : Int) ((i + 1 : Nat) : Int)) r) (d : Nat) : ∀ j : Nat, j + d = k →
    Ev (fun f => matrix_Cauchy.l1 f (k : Int) (m : Int) (oM (matF (k + i) k (cau k m))) (i : Int) (ofL (caR k m i j)) (m : Int) (i : Int) (k : Int) (j : Int)) r := by
  induction d with
  | zero =>
    intro j hj
    obtain rfl : j = k := by omega
    refine Ev.step (f := fun f => matrix_Cauchy.l0 f (j : Int) (m : Int) (oM (matF (j + (i + 1)) j (cau j m))) (m : Int) ((i + 1 : Nat) : Int)) (fun f => ?_) hnext
    simp only [matrix_Cauchy.l1, oM_length, (matF_reg (j + i) j (cau j m)).1]
    rw [if_neg (by omega), if_pos (by omega), oM_one, oM_append, caR_all, cau_next, w64 _ (by omega) (by omega)]
    rfl
  | succ d ih =>
    intro j hj
    refine Ev.step (f := fun f => matrix_Cauchy.l1 f (k : Int) (m : Int) (oM (matF (k + i) k (cau k m))) (i : Int) (ofL (caR k m i (j + 1))) (m : Int) (i : Int) (k : Int) ((j + 1 : Nat) : Int)) (fun f => ?_) (ih (j + 1) (by omega))
    have hl : (caR k m i j).length = k := by simp [caR]
    simp only [matrix_Cauchy.l1, ofL_length, hl, Int.toNat_natCast]
    rw [if_pos (by omega), w64 ((m : Int) + (j : Int)) (by omega) (by omega), show ((m : Int) + (j : Int)) = ((m + j : Nat) : Int) by omega, byte_nat, byte_nat, xor_ofB, gfInv_eq, Option.bind_some, if_pos (by omega), if_pos (by omega), w64 _ (by omega) (by omega)]
    simp only []
    rw [ofL_set, caR_set k m i j (by omega)]
    rfl
theorem cauchy_l0 (k m : Nat) (hk : k + m ≤ 255) (d : Nat) : ∀ i : Nat, i + d = m → Ev (fun f => matrix_Cauchy.l0 f (k : Int) (m : Int) (oM (matF (k + i) k (cau k m))) (m : Int) (i : Int)) (oM (cauM k m), 0) := by
  induction d with
  | zero =>
    intro i hi
    obtain rfl : i = m := by omega
    refine Ev.step (f := fun _ => some (oM (cauM k i), 0)) (fun f => ?_) (Ev.now _)
    simp only [matrix_Cauchy.l0]
    rw [if_neg (by omega)]
    rfl
  | succ d ih =>
    intro i hi
    refine Ev.step (f := fun f => matrix_Cauchy.l1 f (k : Int) (m : Int) (oM (matF (k + i) k (cau k m))) (i : Int) (ofL (caR k m i 0)) (m : Int) (i : Int) (k : Int) ((0 : Nat) : Int)) (fun f => ?_) (cauchy_l1 k m hk _ i (by omega) (ih (i + 1) (by omega)) k 0 (by omega))
    simp only [matrix_Cauchy.l0, Int.toNat_natCast]
    have e : List.replicate k (0 : Int) = ofL (caR k m i 0) := by
      rw [ofL_replicate]
      congr 1
      refine List.ext_getElem (by simp [caR]) fun b h1 h2 => ?_
      simp [caR]
    rw [if_pos (by omega), if_pos (by omega), if_pos (by omega), e]
    rfl
theorem cau_id (k m : Nat) : idM k = matF (k + 0) k (cau k m) := by
  rw [idM_eq]
  refine mat_ext (matF_reg k k I) (matF_reg k k _) fun i j hi hj => ?_
  rw [el_matF _ hi hj, show matF (k + 0) k (cau k m) = matF k k (cau k m) from rfl, el_matF (cau k m) hi hj]
  unfold cau
  rw [if_pos hi]
theorem evCauchy (a b : Int) (ha : -9223372036854775808 ≤ a) : Ev (fun f => matrix_Cauchy.f f a b) (cauR a b) := by
  unfold matrix_Cauchy.f cauR
  have j1 : Ev (fun f => matrix_Cauchy.j0 f a b true) ([], 1) := Ev.step (f := fun _ => some ([], 1)) (fun f => by simp only [matrix_Cauchy.j0, if_true]) (Ev.now _)
  by_cases h1 : a < 1
  · simp only [show (a < 1) = True from eq_true h1, if_true]
    rw [if_neg (by omega)]
    exact j1
  simp only [show (a < 1) = False from eq_false h1, if_false]
  by_cases h2 : b < 1
  · simp only [show (b < 1) = True from eq_true h2, if_true]
    rw [if_neg (by omega)]
    exact j1
  simp only [show (b < 1) = False from eq_false h2, if_false]
  by_cases h3 : a > 255
  · simp only [show (a > 255) = True from eq_true h3, if_true]
    rw [if_neg (by omega)]
    exact j1
  simp only [show (a > 255) = False from eq_false h3, if_false]
  rw [w64 _ (by omega) (by omega)]
  by_cases h4 : b > 255 - a
  · simp only [show decide (b > 255 - a) = true from decide_eq_true h4]
    rw [if_neg (by omega)]
    exact j1
  simp only [show decide (b > 255 - a) = false from decide_eq_false h4]
  rw [if_pos (by omega)]
  obtain ⟨k, rfl⟩ := Int.eq_ofNat_of_zero_le (show 0 ≤ a by omega)
  obtain ⟨m, rfl⟩ := Int.eq_ofNat_of_zero_le (show 0 ≤ b by omega)
  rw [Int.toNat_natCast, Int.toNat_natCast]
  refine Ev.step (f := fun f => (matrix_Identity.f f (k : Int)).bind fun bt101 => matrix_Cauchy.l0 f (k : Int) (m : Int) bt101.1 (m : Int) 0) (fun f => by simp only [matrix_Cauchy.j0, Bool.false_eq_true, if_false]) ?_
  refine Ev.bind (evIdentity (k : Int)) ?_
  unfold idR
  rw [if_pos (by omega), Int.toNat_natCast]
  simp only []
  rw [cau_id k m]
  exact cauchy_l0 k m (by omega) m 0 (by omega)
theorem xor_byte (i n : Nat) : BitVec.ofNat 8 (i ^^^ n) = BitVec.ofNat 8 i ^^^ BitVec.ofNat 8 n := by
  apply BitVec.eq_of_toNat_eq
  rw [BitVec.toNat_xor, BitVec.toNat_ofNat, BitVec.toNat_ofNat, BitVec.toNat_ofNat]
  exact Nat.xor_mod_two_pow
theorem refCauchy_l1 (k m : Nat) (hk : k + m ≤ 255) (r : List (List Int) × Int) (i : Nat) (hi : i < m) (hnext : Ev (fun f => mooringref02_Cauchy.l0 f (k : Int) (m : Int) (oM (matF (k + (i + 1)) k (cau k m))) ((i + 1 : Nat) : Int)) r) (d : Nat) : ∀ j : Nat, j + d = k →
    Ev (fun f => mooringref02_Cauchy.l1 f (k : Int) (m : Int) (oM (matF (k + i) k (cau k m))) (i : Int) (ofL ((List.range j).map (cau k m (k + i)))) (j : Int)) r := by
  induction d with
  | zero =>
    intro j hj
    obtain rfl : j = k := by omega
    refine Ev.step (f := fun f => mooringref02_Cauchy.l0 f (j : Int) (m : Int) (oM (matF (j + (i + 1)) j (cau j m))) ((i + 1 : Nat) : Int)) (fun f => ?_) hnext
    simp only [mooringref02_Cauchy.l1, oM_length, (matF_reg (j + i) j (cau j m)).1]
    rw [if_neg (by omega), if_pos (by omega), oM_one, oM_append, cau_next, w64 _ (by omega) (by omega)]
    rfl
  | succ d ih =>
    intro j hj
    refine Ev.step (f := fun f => (mooringref01_Inv.f f (ofB (BitVec.ofNat 8 i ^^^ BitVec.ofNat 8 (m + j)))).bind fun bt107 => mooringref02_Cauchy.l1 f (k : Int) (m : Int) (oM (matF (k + i) k (cau k m))) (i : Int) (ofL ((List.range j).map (cau k m (k + i))) ++ [bt107.1]) ((j + 1 : Nat) : Int)) (fun f => ?_) ?_
    · have hl : ((List.range j).map (cau k m (k + i))).length = j := by simp
      simp only [mooringref02_Cauchy.l1, ofL_length, hl]
      rw [if_pos (by omega), w64 ((m : Int) + (j : Int)) (by omega) (by omega), show ((m : Int) + (j : Int)) = ((m + j : Nat) : Int) by omega, xor_i64_nat _ _ (by omega) (by omega), byte_nat, xor_byte]
      simp only [show (j < 140737488355328) = True from eq_true (by omega), if_true, w64 ((j : Int) + 1) (by omega) (by omega)]
      rfl
    · refine Ev.bind (refInv _) ?_
      have e : ofL ((List.range j).map (cau k m (k + i))) ++ [ofB (inv (BitVec.ofNat 8 i ^^^ BitVec.ofNat 8 (m + j)))] = ofL ((List.range (j + 1)).map (cau k m (k + i))) := by
        rw [List.range_succ, List.map_append]
        unfold ofL
        rw [List.map_append]
        simp only [List.map_cons, List.map_nil]
        unfold cau
        rw [if_neg (by omega), show k + i - k = i by omega]
      simp only []
      rw [e]
      exact ih (j + 1) (by omega)
theorem refCauchy_l0 (k m : Nat) (hk : k + m ≤ 255) (d : Nat) : ∀ i : Nat, i + d = m → Ev (fun f => mooringref02_Cauchy.l0 f (k : Int) (m : Int) (oM (matF (k + i) k (cau k m))) (i : Int)) (oM (cauM k m), 0) := by
  induction d with
  | zero =>
    intro i hi
    obtain rfl : i = m := by omega
    refine Ev.step (f := fun _ => some (oM (cauM k i), 0)) (fun f => ?_) (Ev.now _)
    simp only [mooringref02_Cauchy.l0]
    rw [if_neg (by omega)]
    rfl
  | succ d ih =>
    intro i hi
    refine Ev.step (f := fun f => mooringref02_Cauchy.l1 f (k : Int) (m : Int) (oM (matF (k + i) k (cau k m))) (i : Int) (ofL ((List.range 0).map (cau k m (k + i)))) ((0 : Nat) : Int)) (fun f => ?_) (refCauchy_l1 k m hk _ i (by omega) (ih (i + 1) (by omega)) k 0 (by omega))
    simp only [mooringref02_Cauchy.l0]
    rw [if_pos (by omega)]
    rfl
theorem evRefCauchy (a b : Int) (ha : -9223372036854775808 ≤ a) : Ev (fun f => mooringref02_Cauchy.f f a b) (cauR a b) := by
  unfold mooringref02_Cauchy.f cauR
  have j1 : Ev (fun f => mooringref02_Cauchy.j0 f a b true) ([], 1) := Ev.step (f := fun _ => some ([], 1)) (fun f => by simp only [mooringref02_Cauchy.j0, if_true]) (Ev.now _)
  by_cases h1 : a < 1
  · simp only [show (a < 1) = True from eq_true h1, if_true]
    rw [if_neg (by omega)]
    exact j1
  simp only [show (a < 1) = False from eq_false h1, if_false]
  by_cases h2 : b < 1
  · simp only [show (b < 1) = True from eq_true h2, if_true]
    rw [if_neg (by omega)]
    exact j1
  simp only [show (b < 1) = False from eq_false h2, if_false]
  by_cases h3 : a > 254
  · simp only [show (a > 254) = True from eq_true h3, if_true]
    rw [if_neg (by omega)]
    exact j1
  simp only [show (a > 254) = False from eq_false h3, if_false]
  rw [w64 _ (by omega) (by omega)]
  by_cases h4 : b > 255 - a
  · simp only [show decide (b > 255 - a) = true from decide_eq_true h4]
    rw [if_neg (by omega)]
    exact j1
  simp only [show decide (b > 255 - a) = false from decide_eq_false h4]
  rw [if_pos (by omega)]
  obtain ⟨k, rfl⟩ := Int.eq_ofNat_of_zero_le (show 0 ≤ a by omega)
  obtain ⟨m, rfl⟩ := Int.eq_ofNat_of_zero_le (show 0 ≤ b by omega)
  rw [Int.toNat_natCast, Int.toNat_natCast]
  refine Ev.step (f := fun f => (mooringref02_Identity.f f (k : Int)).bind fun t101 => mooringref02_Cauchy.l0 f (k : Int) (m : Int) t101 0) (fun f => by simp only [mooringref02_Cauchy.j0, Bool.false_eq_true, if_false]) ?_
  refine Ev.bind (evRefIdentity k (by omega)) ?_
  rw [cau_id k m]
  exact refCauchy_l0 k m (by omega) m 0 (by omega)
/-! ### Rows -/
def rowsM (A : Mat) (l : List Int) : Mat := l.map fun i => row A i.toNat
theorem rows_ok (A : Mat) (hr : ∀ i, i < A.length → (row A i).length < 140737488355328) (l : List Int) (hl : l.length ≤ 255) (h : ∀ j, j < l.length → 0 ≤ rd l (j : Int) ∧ rd l (j : Int) < A.length) (d : Nat) : ∀ i : Nat, i + d = l.length →
    Ev (fun k => matrix_Rows.l0 k (oM A) (oM (rowsM A (l.take i))) l (l.length : Int) (i : Int)) (oM (rowsM A l), 0) := by
  induction d with
  | zero =>
    intro i hi
    obtain rfl : i = l.length := by omega
    rw [List.take_length]
    refine Ev.step (f := fun _ => some (oM (rowsM A l), 0)) (fun f => ?_) (Ev.now _)
    simp only [matrix_Rows.l0]
    rw [if_neg (by omega)]
  | succ d ih =>
    intro i hi
    obtain ⟨h1, h2⟩ := h i (by omega)
    refine Ev.step (f := fun k => matrix_Rows.l0 k (oM A) (oM (rowsM A (l.take (i + 1)))) l (l.length : Int) ((i + 1 : Nat) : Int)) (fun f => ?_) (ih (i + 1) (by omega))
    have e1 : rd_L1 (oM A) (rd l (i : Int)) = ofL (row A (rd l (i : Int)).toNat) := map_getD A _
    have e2 : (rowsM A (l.take i)).length = i := by unfold rowsM; rw [List.length_map, List.length_take]; omega
    have e3 : rowsM A (l.take i) ++ [row A (rd l (i : Int)).toNat] = rowsM A (l.take (i + 1)) := by
      unfold rowsM
      rw [List.take_succ_eq_append_getElem (by omega), List.map_append]
      have e4 : rd l (i : Int) = l[i] := by
        unfold rd
        rw [Int.toNat_natCast, List.getD_eq_getElem?_getD, List.getElem?_eq_getElem (by omega)]
        rfl
      rw [e4]
      rfl
    simp only [matrix_Rows.l0, oM_length, e1, slices_Clone_byte_byte.f, ofL_length, e2]
    rw [if_pos (by omega), if_pos (by omega), if_pos (by omega), if_neg (by omega), if_neg (by omega), if_pos (by omega), if_pos (by omega), if_pos (hr _ (by omega)), Option.bind_some, if_pos (by omega), oM_one, oM_append, e3, w64 _ (by omega) (by omega)]
    rfl
theorem rows_bad (A : Mat) (hr : ∀ i, i < A.length → (row A i).length < 140737488355328) (l : List Int) (hl : l.length ≤ 255) (j : Nat) (hj : j < l.length) (hb : rd l (j : Int) < 0 ∨ rd l (j : Int) ≥ A.length) (d : Nat) : ∀ (i : Nat) (X : List (List Int)), i + d = j → X.length = i →
    Ev (fun k => matrix_Rows.l0 k (oM A) X l (l.length : Int) (i : Int)) ([], 1) := by
  induction d with
  | zero =>
    intro i X hi hX
    obtain rfl : i = j := by omega
    refine Ev.step (f := fun _ => some ([], 1)) (fun f => ?_) (Ev.now _)
    simp only [matrix_Rows.l0, oM_length]
    rw [if_pos (by omega), if_pos (by omega), if_pos (by omega)]
    by_cases h1 : rd l (i : Int) < 0
    · rw [if_pos h1]
    · rw [if_neg h1, if_pos (by omega)]
  | succ d ih =>
    intro i X hi hX
    by_cases h1 : rd l (i : Int) < 0
    · refine Ev.step (f := fun _ => some ([], 1)) (fun f => ?_) (Ev.now _)
      simp only [matrix_Rows.l0, oM_length]
      rw [if_pos (by omega), if_pos (by omega), if_pos (by omega), if_pos h1]
    · by_cases h2 : rd l (i : Int) ≥ A.length
      · refine Ev.step (f := fun _ => some ([], 1)) (fun f => ?_) (Ev.now _)
        simp only [matrix_Rows.l0, oM_length]
        rw [if_pos (by omega), if_pos (by omega), if_pos (by omega), if_neg h1, if_pos (by omega)]
      · have e1 : rd_L1 (oM A) (rd l (i : Int)) = ofL (row A (rd l (i : Int)).toNat) := map_getD A _
        refine Ev.step (f := fun k => matrix_Rows.l0 k (oM A) (X ++ [ofL (row A (rd l (i : Int)).toNat)]) l (l.length : Int) ((i + 1 : Nat) : Int)) (fun f => ?_) (ih (i + 1) _ (by omega) (by rw [List.length_append, hX]; rfl))
        simp only [matrix_Rows.l0, oM_length, e1, slices_Clone_byte_byte.f, ofL_length, hX]
        rw [if_pos (by omega), if_pos (by omega), if_pos (by omega), if_neg (by omega), if_neg (by omega), if_pos (by omega), if_pos (by omega), if_pos (hr _ (by omega)), Option.bind_some, if_pos (by omega), w64 _ (by omega) (by omega)]
        rfl
/-- May such rows be had? -/
def rowsB (A : Mat) (l : List Int) : Bool := mayB A && decide (0 < l.length) && decide (l.length ≤ 255) && l.all fun v => decide (0 ≤ v) && decide (v < A.length)
def rowsR (A : Mat) (l : List Int) : List (List Int) × Int := if rowsB A l = true then (oM (rowsM A l), 0) else ([], 1)
theorem rd_mem (l : List Int) (j : Nat) (hj : j < l.length) : rd l (j : Int) ∈ l := by
  unfold rd
  rw [Int.toNat_natCast, List.getD_eq_getElem?_getD, List.getElem?_eq_getElem hj]
  exact List.getElem_mem hj
theorem evRows (A : Mat) (hs : A.length ≤ 9223372036854775807) (l : List Int) : Ev (fun k => matrix_Rows.f k (oM A) l) (rowsR A l) := by
  have j1 : Ev (fun k => matrix_Rows.j0 k (oM A) l true) ([], 1) := Ev.step (f := fun _ => some ([], 1)) (fun k => by simp only [matrix_Rows.j0, if_true]) (Ev.now _)
  unfold matrix_Rows.f rowsR
  refine Ev.bind (evCheck A hs) ?_
  cases h1 : mayB A with
  | false =>
    rw [show rowsB A l = false by unfold rowsB; rw [h1]; rfl]
    simp only [Bool.false_eq_true, if_false, show ((1 : Int) = 0) = False from eq_false (by decide)]
    exact j1
  | true =>
    simp only [if_true]
    by_cases h2 : l.length = 0
    · rw [show rowsB A l = false by unfold rowsB; rw [decide_eq_false (by omega)]; simp]
      simp only [show ((l.length : Int) = 0) = True from eq_true (by omega), if_true, Bool.false_eq_true, if_false]
      exact j1
    · simp only [show ((l.length : Int) = 0) = False from eq_false (by omega), if_false]
      by_cases h3 : l.length > 255
      · rw [show rowsB A l = false by unfold rowsB; rw [decide_eq_false (show ¬ l.length ≤ 255 by omega)]; simp]
        simp only [show decide ((l.length : Int) > 255) = true from decide_eq_true (by omega), Bool.false_eq_true, if_false]
        exact j1
      · simp only [show decide ((l.length : Int) > 255) = false from decide_eq_false (by omega)]
        obtain ⟨hA, a1, a2, a3, a4⟩ := mayB_reg h1
        have hr : ∀ i, i < A.length → (row A i).length < 140737488355328 := fun i hi => by rw [hA.2 i hi]; omega
        refine Ev.step (f := fun k => matrix_Rows.l0 k (oM A) (oM (rowsM A (l.take 0))) l (l.length : Int) ((0 : Nat) : Int)) (fun k => by simp only [matrix_Rows.j0, Bool.false_eq_true, if_false]; rfl) ?_
        cases h4 : (l.all fun v => decide (0 ≤ v) && decide (v < A.length)) with
        | true =>
          rw [show rowsB A l = true by unfold rowsB; rw [h1, h4, decide_eq_true (show 0 < l.length by omega), decide_eq_true (show l.length ≤ 255 by omega)]; rfl, if_pos rfl]
          refine rows_ok A hr l (by omega) (fun j hj => ?_) l.length 0 (by omega)
          have := List.all_eq_true.1 h4 _ (rd_mem l j hj)
          simpa using this
        | false =>
          rw [show rowsB A l = false by unfold rowsB; rw [h4]; simp]
          simp only [Bool.false_eq_true, if_false]
          obtain ⟨v, hv, hb⟩ := List.all_eq_false.1 h4
          obtain ⟨j, hj, e⟩ := List.mem_iff_getElem.1 hv
          have e2 : rd l (j : Int) = v := by
            unfold rd
            rw [Int.toNat_natCast, List.getD_eq_getElem?_getD, List.getElem?_eq_getElem hj]
            exact e
          refine rows_bad A hr l (by omega) j hj ?_ j 0 _ (by omega) rfl
          rw [e2]
          have hb' : ¬ (0 ≤ v ∧ v < A.length) := by simpa using hb
          omega
end Go.Proofs.Ytbogmlckbkogiaa.Red

/- Any k rows of a code's matrix have an inverse, and Inverse tells it. Conditions: k, m at least 1, k + m at most 255. -/
namespace Go.Proofs.Ytbogmlckbkogiaa.Red
open Go.RowKit Go.Proofs.YtbogmlckbkogiaaW.PrintWords Go.Proofs.Ytbogmlckbkogiaa.Leaf Go.Proofs.Ytbogmlckbkogiaa.Gf Go.Proofs.Ytbogmlckbkogiaa.H Go.Proofs.Ytbogmlckbkogiaa.Mx Go.Proofs.Ytbogmlckbkogiaa.P
set_option linter.unusedVariables false
set_option linter.unusedSimpArgs false
theorem mulM_reg {A C : Mat} {n m p : Nat} (hA : Reg A n m) (hC : Reg C m p) (hm : 0 < m) : Reg (mulM A C) n p := by
  unfold mulM
  rw [hA.1, hC.2 0 hm]
  exact matF_reg n p _
theorem el_mulM {A C : Mat} {n m p : Nat} (hA : Reg A n m) (hC : Reg C m p) (hm : 0 < m) {i j : Nat} (hi : i < n) (hj : j < p) : el (mulM A C) i j = mm m (el A) (el C) i j := by
  unfold mulM
  rw [hA.1, hC.1, hC.2 0 hm, el_matF _ hi hj]
theorem mulM_assoc {A C D : Mat} {n m p q : Nat} (hA : Reg A n m) (hC : Reg C m p) (hD : Reg D p q) (hm : 0 < m) (hp : 0 < p) : mulM (mulM A C) D = mulM A (mulM C D) := by
  refine mat_ext (mulM_reg (mulM_reg hA hC hm) hD hp) (mulM_reg hA (mulM_reg hC hD hp) hm) fun i j hi hj => ?_
  rw [el_mulM (mulM_reg hA hC hm) hD hp hi hj, el_mulM hA (mulM_reg hC hD hp) hm hi hj]
  refine (mm_congr (fun k hk => el_mulM hA hC hm hi hk) (fun _ _ => rfl)).trans ?_
  rw [mm_assoc]
  exact mm_congr (fun _ _ => rfl) (fun k hk => (el_mulM hC hD hp hk hj).symm)
theorem mulM_id {A : Mat} {n m : Nat} (hA : Reg A n m) (hn : 0 < n) : mulM (idM n) A = A := by
  refine mat_ext (mulM_reg (matF_reg n n I) hA hn) hA fun i j hi hj => ?_
  rw [idM_eq, el_mulM (matF_reg n n I) hA hn hi hj]
  refine (mm_congr (fun k hk => el_matF I hi hk) (fun _ _ => rfl)).trans ?_
  exact mm_IL _ _ hi
/-- What Inverse tells of a square matrix whose rows do not cancel out. -/
theorem invR_yes {A : Mat} {n : Nat} (hA : Reg A n n) (hn : 0 < n) (hn2 : n ≤ 255) (h : (redF n 0 0 A (idM n)).1 = n) : ∃ X, invR A = (oM X, 0) ∧ Reg X n n ∧ mulM A X = idM n ∧ mulM X A = idM n := by
  obtain ⟨r1, r2, r3⟩ := inverse_yes hn hA h
  refine ⟨(redF n 0 0 A (idM n)).2.2, ?_, r1, ?_, ?_⟩
  · unfold invR
    rw [if_pos ⟨mayB_of hA hn hn2 hn hn2, by rw [hA.1, hA.2 0 hn]⟩, hA.1, if_neg (by omega)]
  · refine mat_ext (mulM_reg hA r1 hn) (matF_reg n n I) fun i j hi hj => ?_
    rw [el_mulM hA r1 hn hi hj, r3 i j hi hj, idM_eq, el_matF I hi hj]
  · refine mat_ext (mulM_reg r1 hA hn) (matF_reg n n I) fun i j hi hj => ?_
    rw [el_mulM r1 hA hn hi hj, r2 i j hi hj, idM_eq, el_matF I hi hj]
theorem invR_no {A : Mat} {n : Nat} (hA : Reg A n n) (hn : 0 < n) (hn2 : n ≤ 255) (h : (redF n 0 0 A (idM n)).1 < n) : invR A = ([], 4) := by
  unfold invR
  rw [if_pos ⟨mayB_of hA hn hn2 hn hn2, by rw [hA.1, hA.2 0 hn]⟩, hA.1, if_pos h]
def ints (L : List Nat) : List Int := L.map fun (v : Nat) => (v : Int)
theorem ints_length (L : List Nat) : (ints L).length = L.length := List.length_map _
theorem row_rowsM (A : Mat) (L : List Nat) (i : Nat) (hi : i < L.length) : row (rowsM A (ints L)) i = row A (L.getD i 0) := by
  unfold rowsM ints
  rw [List.map_map]
  show (L.map _).getD i [] = _
  rw [List.getD_eq_getElem?_getD, List.getElem?_map, List.getD_eq_getElem?_getD, List.getElem?_eq_getElem hi]
  rfl
theorem rowsM_reg {A : Mat} {n m : Nat} (hA : Reg A n m) (L : List Nat) (h : ∀ v ∈ L, v < n) : Reg (rowsM A (ints L)) L.length m := by
  refine ⟨by unfold rowsM ints; rw [List.length_map, List.length_map], fun i hi => ?_⟩
  rw [row_rowsM A L i hi]
  exact hA.2 _ (h _ (getD_mem hi))
theorem cauM_reg (k m : Nat) : Reg (cauM k m) (k + m) k := matF_reg _ _ _
theorem cauM_may {k m : Nat} (hk : 1 ≤ k) (h : k + m ≤ 255) : mayB (cauM k m) = true := mayB_of (cauM_reg k m) (by omega) h hk (by omega)
theorem pick_inverse {k m : Nat} (hk : 1 ≤ k) (h : k + m ≤ 255) (L : List Nat) (hl : L.length = k) (hnd : L.Nodup) (hb : ∀ v ∈ L, v < k + m) :
    Reg (rowsM (cauM k m) (ints L)) k k ∧ ∃ X, invR (rowsM (cauM k m) (ints L)) = (oM X, 0) ∧ Reg X k k ∧ mulM (rowsM (cauM k m) (ints L)) X = idM k ∧ mulM X (rowsM (cauM k m) (ints L)) = idM k := by
  have hS : Reg (rowsM (cauM k m) (ints L)) k k := by
    have := rowsM_reg (cauM_reg k m) L hb
    rwa [hl] at this
  have hel : ∀ i j, i < k → j < k → el (rowsM (cauM k m) (ints L)) i j = cau k m (L.getD i 0) j := by
    intro i j hi hj
    unfold el
    rw [row_rowsM _ _ _ (by omega)]
    exact el_matF _ (hb _ (getD_mem (by omega))) hj
  refine ⟨hS, invR_yes hS (by omega) (by omega) ?_⟩
  have hle := redF_le (by omega) hS (matF_reg k k I)
  rw [← idM_eq] at hle
  by_cases hlt : (redF k 0 0 (rowsM (cauM k m) (ints L)) (idM k)).1 < k
  · obtain ⟨y, hy, i, hi, hne⟩ := inverse_no (by omega) hS (matF_reg k k I) hlt
    exfalso
    refine hne (cauchy_regular h L hl hnd hb y (fun j hj => ?_) i hi)
    rw [← hy j hj]
    exact sm_congr fun i' hi' => by rw [hel i' j hi' hj]
  · omega
end Go.Proofs.Ytbogmlckbkogiaa.Red

-- Printed by a wrapper (wip/tools/myprint.py) of the kit's print, with hand-written contracts as given leaves.
namespace Go.Proofs.Ytbogmlckbkogiaa.P
open Go.Proofs.Ytbogmlckbkogiaa.Leaf
open Go.RowKit Go.Proofs.YtbogmlckbkogiaaW.PrintWords Go.Proofs.YtbogmlckbkogiaaW.PrintLast Go.Proofs.YtbogmlckbkogiaaW.PrintMore
attribute [local go_sem] max2_int min2_int max_two min_two max_three min_three max_four min_four   -- for this text's walks alone
set_option linter.unusedVariables false
set_option linter.unusedSimpArgs false

/-! ### mooringlaw02_errno: function 66 -/
def mooringlaw02_errno.f (a0 : Bool) : Option (Int) := if a0 = true then (some 0) else (some 1)
set_option maxHeartbeats 8000000 in
set_option maxRecDepth 100000 in
theorem mooringlaw02_errno.calls (a0 : Bool) (r : Int) (w : World) (h : mooringlaw02_errno.f a0 = some r) :
    Calls Try.prog 66 #[.bool a0] w fun e w' => e = .returned (.int .i64 r) ∧ Drawn0 w w' := by
  have H : (if a0 = true then (some 0) else (some 1)) = some r := h
  clear h
  by_cases c2 : a0 = true
  · subst c2
    have H1 : (some 0) = some r := by rw [if_pos rfl] at H; exact H
    clear H
    have H := H1
    clear H1
    obtain rfl := Option.some.inj H
    go_enter Try.func66, Try.ntmps66
    go_wp2
    go_ret
    exact ⟨by first | rfl | (simp; done) | (simp [*]; done), by repeat (first | exact Drawn0.refl _ | apply Drawn0.step)⟩
  · replace c2 := Bool.eq_false_iff.mpr c2
    subst c2
    have H1 : (some 1) = some r := by rw [if_neg (show ¬ (false = true) by decide)] at H; exact H
    clear H
    have H := H1
    clear H1
    obtain rfl := Option.some.inj H
    go_enter Try.func66, Try.ntmps66
    go_wp2
    go_ret
    exact ⟨by first | rfl | (simp; done) | (simp [*]; done), by repeat (first | exact Drawn0.refl _ | apply Drawn0.step)⟩

end Go.Proofs.Ytbogmlckbkogiaa.P

-- Printed by a wrapper (wip/tools/myprint.py) of the kit's print, with hand-written contracts as given leaves.
namespace Go.Proofs.Ytbogmlckbkogiaa.P
open Go.Proofs.Ytbogmlckbkogiaa.H
open Go.Proofs.Ytbogmlckbkogiaa.Leaf
open Go.RowKit Go.Proofs.YtbogmlckbkogiaaW.PrintWords Go.Proofs.YtbogmlckbkogiaaW.PrintLast Go.Proofs.YtbogmlckbkogiaaW.PrintMore
attribute [local go_sem] max2_int min2_int max_two min_two max_three min_three max_four min_four   -- for this text's walks alone
set_option linter.unusedVariables false
set_option linter.unusedSimpArgs false

/-! ### mooringlaw02_MatrixMuls: function 13 -/
def mooringlaw02_MatrixMuls.j0 : Nat → List (List Int) → List (List Int) → Bool → Option (Bool)
  | 0, _, _, _ => none
  | k + 1, x0, x1, x16 => if x16 = true then ((mooringlaw02_awake.f).bind fun t103 => (some t103)) else ((matrix_Mul.f k x0 x1).bind fun bt104 => ((mooringref02_Mul.f k x0 x1).bind fun bt108 => ((matrix_Check.f k x0).bind fun t112 => ((mooringref02_May.f k x0).bind fun t113 => ((mooringlaw02_errno.f t113).bind fun t114 => (if t112 = t114 then (if bt104.2 = bt108.2 then ((mooringref02_Same.f k bt104.1 bt108.1).bind fun t115 => (if t115 = true then ((mooringlaw02_awake.f).bind fun t116 => (some t116)) else (some false))) else (some false)) else (some false)))))))
def mooringlaw02_MatrixMuls.f (k : Nat) (l0 : List (List Int)) (l1 : List (List Int)) : Option (Bool) := (mooringlaw02_light.f l0).bind fun t101 => (if t101 = true then ((mooringlaw02_light.f l1).bind fun t102 => (mooringlaw02_MatrixMuls.j0 k l0 l1 (!t102))) else (mooringlaw02_MatrixMuls.j0 k l0 l1 true))
theorem mooringlaw02_MatrixMuls.mono_l : ∀ k, (∀ y0 y1 y2, LeO (mooringlaw02_MatrixMuls.j0 k y0 y1 y2) (mooringlaw02_MatrixMuls.j0 (k + 1) y0 y1 y2))
  | 0 => fun _ _ _ r h => by simp [mooringlaw02_MatrixMuls.j0] at h
  | k + 1 => by
    have ih0 := mooringlaw02_MatrixMuls.mono_l k
    · intro y0 y1 y2
      unfold mooringlaw02_MatrixMuls.j0
      repeat' first
      | (with_reducible exact ih0 _ _ _)
      | (with_reducible exact matrix_Check.mono _ _)
      | (with_reducible exact matrix_Mul.mono _ _ _)
      | (with_reducible exact mooringref02_May.mono _ _)
      | (with_reducible exact mooringref02_Mul.mono _ _ _)
      | (with_reducible exact mooringref02_Same.mono _ _ _)
      | (with_reducible exact LeO.refl _)
      | (with_reducible exact LeO.none _)
      | (with_reducible refine LeO.ite ?_ ?_)
      | (with_reducible refine LeO.bind ?_ (fun _ => ?_))
      | exact ih0 _ _ _
      | exact matrix_Check.mono _ _
      | exact matrix_Mul.mono _ _ _
      | exact mooringref02_May.mono _ _
      | exact mooringref02_Mul.mono _ _ _
      | exact mooringref02_Same.mono _ _ _
      | exact LeO.none _
      | refine LeO.ite ?_ ?_
      | refine LeO.bind ?_ (fun _ => ?_)
theorem mooringlaw02_MatrixMuls.mono : ∀ a0 a1 k, LeO (mooringlaw02_MatrixMuls.f k a0 a1) (mooringlaw02_MatrixMuls.f (k + 1) a0 a1) := by
  intro a0 a1 k
  have ih0 := mooringlaw02_MatrixMuls.mono_l k
  unfold mooringlaw02_MatrixMuls.f
  repeat' first
      | (with_reducible exact ih0 _ _ _)
      | (with_reducible exact matrix_Check.mono _ _)
      | (with_reducible exact matrix_Mul.mono _ _ _)
      | (with_reducible exact mooringref02_May.mono _ _)
      | (with_reducible exact mooringref02_Mul.mono _ _ _)
      | (with_reducible exact mooringref02_Same.mono _ _ _)
      | (with_reducible exact LeO.refl _)
      | (with_reducible exact LeO.none _)
      | (with_reducible refine LeO.ite ?_ ?_)
      | (with_reducible refine LeO.bind ?_ (fun _ => ?_))
      | exact ih0 _ _ _
      | exact matrix_Check.mono _ _
      | exact matrix_Mul.mono _ _ _
      | exact mooringref02_May.mono _ _
      | exact mooringref02_Mul.mono _ _ _
      | exact mooringref02_Same.mono _ _ _
      | exact LeO.none _
      | refine LeO.ite ?_ ?_
      | refine LeO.bind ?_ (fun _ => ?_)
set_option maxHeartbeats 8000000 in
set_option maxRecDepth 100000 in
theorem mooringlaw02_MatrixMuls.calls (k : Nat) (A0 : Option Addr) (c0 : Nat) (l0 : List (List Int)) (A1 : Option Addr) (c1 : Nat) (l1 : List (List Int)) (r : Bool) (w : World) (hr0 : Kd.C (Kd.slice 5 (Kd.int .u8)) w A0 l0.length l0) (hc0 : l0.length ≤ c0) (hr1 : Kd.C (Kd.slice 5 (Kd.int .u8)) w A1 l1.length l1) (hc1 : l1.length ≤ c1) (h : mooringlaw02_MatrixMuls.f k l0 l1 = some r) :
    Calls Try.prog 13 #[.slice A0 l0.length c0, .slice A1 l1.length c1] w fun e w' => e = .returned (.bool r) ∧ Below w.heap.size w w' := by
  have HR0 := Aside0.mk hr0
  have HC0 := Aside0.mk hc0
  clear hr0 hc0
  have HR1 := Aside0.mk hr1
  have HC1 := Aside0.mk hc1
  clear hr1 hc1
  have HB := Aside0.mk (Below.refl w.heap.size w)
  have H : ((mooringlaw02_light.f l0).bind fun t101 => (if t101 = true then ((mooringlaw02_light.f l1).bind fun t102 => (mooringlaw02_MatrixMuls.j0 k l0 l1 (!t102))) else (mooringlaw02_MatrixMuls.j0 k l0 l1 true))) = some r := h
  clear h
  have HC3 := Aside0.mk H
  clear H
  go_enter Try.func13, Try.ntmps13
  go_upto_region 1 with (fail)
  go_cut [16] (fun v16 wc => ∃ (kq : Nat) (x16_2 : Bool), v16 = .bool x16_2 ∧ Aside0 (mooringlaw02_MatrixMuls.j0 kq l0 l1 x16_2 = some r) ∧ Aside0 (kq ≤ k) ∧ Aside0 (Below w.heap.size w wc))
  case first =>
    have H := HC3.out
    clear HC3
    replace H := Option.bind_eq_some_iff.mp H
    obtain ⟨t101, A40, H⟩ := H
    replace H : (if t101 = true then ((mooringlaw02_light.f l1).bind fun t102 => (mooringlaw02_MatrixMuls.j0 k l0 l1 (!t102))) else (mooringlaw02_MatrixMuls.j0 k l0 l1 true)) = some r := H
    have A4 := Aside0.mk A40
    clear A40
    by_cases c5 : t101 = true
    · subst c5
      have H1 : ((mooringlaw02_light.f l1).bind fun t102 => (mooringlaw02_MatrixMuls.j0 k l0 l1 (!t102))) = some r := by rw [if_pos rfl] at H; exact H
      clear H
      have H := H1
      clear H1
      replace H := Option.bind_eq_some_iff.mp H
      obtain ⟨t102, A60, H⟩ := H
      replace H : (mooringlaw02_MatrixMuls.j0 k l0 l1 (!t102)) = some r := H
      have A6 := Aside0.mk A60
      clear A60
      have H' := Aside0.mk H
      clear H
      go_wp2_with (first | ((with_reducible refine gate_callee (f := 50) rfl ?_); refine goesL_ (some 10) rfl rfl Try.func50 (by kernel_rfl) rfl #[.slice A0 l0.length c0] rfl (by (try simp only [List.map_toArray, List.map_cons, List.map_nil]); first | done | rfl | (simp only [List.length_drop, List.length_take]; rfl)) ?_; (with_reducible refine (mooringlaw02_light.calls _ _ l0 true _ ?side1 ?side2 A4.out).mono ?_); (case side1 => repeat (first | exact (Kd.C_below HR0.out HB.out) | (with_reducible refine Kd.C_alloc ?_ _) | (with_reducible refine Kd.C_drewN ?_ _) | (with_reducible refine Kd.C_drew ?_))); (case side2 => exact HC0.out); rintro e w' ⟨rfl, ⟨nd, rfl⟩⟩; refine ⟨_, rfl, ?_⟩) | (go_at_call 50; (with_reducible refine (mooringlaw02_light.calls _ _ l1 t102 _ ?side1 ?side2 A6.out).mono ?_); (case side1 => repeat (first | exact (Kd.C_below HR1.out (by repeat (first | (with_reducible first | exact HB.out | apply below_alloc | apply pw_below_drewN | apply below_drew1) | exact HB.out))) | (with_reducible refine Kd.C_alloc ?_ _) | (with_reducible refine Kd.C_drewN ?_ _) | (with_reducible refine Kd.C_drew ?_))); (case side2 => exact HC1.out); rintro e w' ⟨rfl, ⟨nd, rfl⟩⟩))
      go_meet
      case rel => exact ⟨_, (!t102), (by first | rfl | (simp; done) | (simp [*]; done)), H', ⟨by first | omega | exact Nat.le_refl _⟩, ⟨by repeat (first | (with_reducible first | exact HB.out | apply below_alloc | apply pw_below_drewN | apply below_drew1) | exact HB.out)⟩⟩
    · replace c5 := Bool.eq_false_iff.mpr c5
      subst c5
      have H1 : (mooringlaw02_MatrixMuls.j0 k l0 l1 true) = some r := by rw [if_neg (show ¬ (false = true) by decide)] at H; exact H
      clear H
      have H := H1
      clear H1
      have H' := Aside0.mk H
      clear H
      go_wp2_with (first | ((with_reducible refine gate_callee (f := 50) rfl ?_); refine goesL_ (some 10) rfl rfl Try.func50 (by kernel_rfl) rfl #[.slice A0 l0.length c0] rfl (by (try simp only [List.map_toArray, List.map_cons, List.map_nil]); first | done | rfl | (simp only [List.length_drop, List.length_take]; rfl)) ?_; (with_reducible refine (mooringlaw02_light.calls _ _ l0 false _ ?side1 ?side2 A4.out).mono ?_); (case side1 => repeat (first | exact (Kd.C_below HR0.out HB.out) | (with_reducible refine Kd.C_alloc ?_ _) | (with_reducible refine Kd.C_drewN ?_ _) | (with_reducible refine Kd.C_drew ?_))); (case side2 => exact HC0.out); rintro e w' ⟨rfl, ⟨nd, rfl⟩⟩; refine ⟨_, rfl, ?_⟩))
      go_meet
      case rel => exact ⟨_, (true), (by first | rfl | (simp; done) | (simp [*]; done)), H', ⟨by first | omega | exact Nat.le_refl _⟩, ⟨by repeat (first | (with_reducible first | exact HB.out | apply below_alloc | apply pw_below_drewN | apply below_drew1) | exact HB.out)⟩⟩
  case rest =>
    clear HC3
    try clear c1
    try clear p2
    try clear c5
    obtain ⟨kq, x16_2, rfl, HA, HJ2, HB⟩ := hcut
    cases kq with
    | zero => exact absurd HA.out (by simp [mooringlaw02_MatrixMuls.j0])
    | succ kj2 =>
      have H := HA.out
      clear HA
      simp only [mooringlaw02_MatrixMuls.j0] at H
      by_cases c7 : x16_2 = true
      · subst c7
        have H1 : ((mooringlaw02_awake.f).bind fun t103 => (some t103)) = some r := by rw [if_pos rfl] at H; exact H
        clear H
        have H := H1
        clear H1
        replace H := Option.bind_eq_some_iff.mp H
        obtain ⟨t103, A80, H⟩ := H
        replace H : (some t103) = some r := H
        have A8 := Aside0.mk A80
        clear A80
        obtain rfl := Option.some.inj H
        go_wp2_with (first | ((with_reducible refine gate_callee (f := 51) rfl ?_); refine goesL_ (some 17) rfl rfl Try.func51 (by kernel_rfl) rfl #[] rfl (by (try simp only [List.map_toArray, List.map_cons, List.map_nil]); first | done | rfl | (simp only [List.length_drop, List.length_take]; rfl)) ?_; (with_reducible refine (mooringlaw02_awake.calls  t103 _ A8.out).mono ?_); rintro e w9 ⟨rfl, hb⟩; refine ⟨_, rfl, ?_⟩; have n0_ := Aside0.mk (below_step (by repeat (first | (with_reducible first | exact HB.out | apply below_alloc | apply pw_below_drewN | apply below_drew1) | exact HB.out)) hb); clear HB; have HB := n0_; clear n0_; (try clear hb); (try clear hb2); (try clear hk); (try clear hi)))
        go_ret
        exact ⟨by first | rfl | (simp [errW_none, errW_some] <;> rfl) | (simp [*, errW_none, errW_some] <;> rfl), by repeat (first | (with_reducible first | exact HB.out | apply below_alloc | apply pw_below_drewN | apply below_drew1) | exact HB.out)⟩
      · replace c7 := Bool.eq_false_iff.mpr c7
        subst c7
        have H1 : ((matrix_Mul.f kj2 l0 l1).bind fun bt104 => ((mooringref02_Mul.f kj2 l0 l1).bind fun bt108 => ((matrix_Check.f kj2 l0).bind fun t112 => ((mooringref02_May.f kj2 l0).bind fun t113 => ((mooringlaw02_errno.f t113).bind fun t114 => (if t112 = t114 then (if bt104.2 = bt108.2 then ((mooringref02_Same.f kj2 bt104.1 bt108.1).bind fun t115 => (if t115 = true then ((mooringlaw02_awake.f).bind fun t116 => (some t116)) else (some false))) else (some false)) else (some false))))))) = some r := by rw [if_neg (show ¬ (false = true) by decide)] at H; exact H
        clear H
        have H := H1
        clear H1
        replace H := Option.bind_eq_some_iff.mp H
        obtain ⟨⟨t104, t107⟩, A100, H⟩ := H
        replace H : ((mooringref02_Mul.f kj2 l0 l1).bind fun bt108 => ((matrix_Check.f kj2 l0).bind fun t112 => ((mooringref02_May.f kj2 l0).bind fun t113 => ((mooringlaw02_errno.f t113).bind fun t114 => (if t112 = t114 then (if t107 = bt108.2 then ((mooringref02_Same.f kj2 t104 bt108.1).bind fun t115 => (if t115 = true then ((mooringlaw02_awake.f).bind fun t116 => (some t116)) else (some false))) else (some false)) else (some false)))))) = some r := H
        have A10 := Aside0.mk A100
        clear A100
        replace H := Option.bind_eq_some_iff.mp H
        obtain ⟨⟨t108, t109⟩, A110, H⟩ := H
        replace H : ((matrix_Check.f kj2 l0).bind fun t112 => ((mooringref02_May.f kj2 l0).bind fun t113 => ((mooringlaw02_errno.f t113).bind fun t114 => (if t112 = t114 then (if t107 = t109 then ((mooringref02_Same.f kj2 t104 t108).bind fun t115 => (if t115 = true then ((mooringlaw02_awake.f).bind fun t116 => (some t116)) else (some false))) else (some false)) else (some false))))) = some r := H
        have A11 := Aside0.mk A110
        clear A110
        replace H := Option.bind_eq_some_iff.mp H
        obtain ⟨t112, A120, H⟩ := H
        replace H : ((mooringref02_May.f kj2 l0).bind fun t113 => ((mooringlaw02_errno.f t113).bind fun t114 => (if t112 = t114 then (if t107 = t109 then ((mooringref02_Same.f kj2 t104 t108).bind fun t115 => (if t115 = true then ((mooringlaw02_awake.f).bind fun t116 => (some t116)) else (some false))) else (some false)) else (some false)))) = some r := H
        have A12 := Aside0.mk A120
        clear A120
        replace H := Option.bind_eq_some_iff.mp H
        obtain ⟨t113, A130, H⟩ := H
        replace H : ((mooringlaw02_errno.f t113).bind fun t114 => (if t112 = t114 then (if t107 = t109 then ((mooringref02_Same.f kj2 t104 t108).bind fun t115 => (if t115 = true then ((mooringlaw02_awake.f).bind fun t116 => (some t116)) else (some false))) else (some false)) else (some false))) = some r := H
        have A13 := Aside0.mk A130
        clear A130
        replace H := Option.bind_eq_some_iff.mp H
        obtain ⟨t114, A140, H⟩ := H
        replace H : (if t112 = t114 then (if t107 = t109 then ((mooringref02_Same.f kj2 t104 t108).bind fun t115 => (if t115 = true then ((mooringlaw02_awake.f).bind fun t116 => (some t116)) else (some false))) else (some false)) else (some false)) = some r := H
        have A14 := Aside0.mk A140
        clear A140
        by_cases c15 : t112 = t114
        · rw [if_pos c15] at H
          have c15b0 : (t112 == t114) = true := beq_iff_eq.mpr c15
          have c15b1 : (t112 != t114) = false := bne_eq_false_iff_eq.mpr c15
          clear c15
          by_cases c16 : t107 = t109
          · rw [if_pos c16] at H
            have c16b0 : (t107 == t109) = true := beq_iff_eq.mpr c16
            have c16b1 : (t107 != t109) = false := bne_eq_false_iff_eq.mpr c16
            clear c16
            replace H := Option.bind_eq_some_iff.mp H
            obtain ⟨t115, A170, H⟩ := H
            replace H : (if t115 = true then ((mooringlaw02_awake.f).bind fun t116 => (some t116)) else (some false)) = some r := H
            have A17 := Aside0.mk A170
            clear A170
            by_cases c18 : t115 = true
            · subst c18
              have H1 : ((mooringlaw02_awake.f).bind fun t116 => (some t116)) = some r := by rw [if_pos rfl] at H; exact H
              clear H
              have H := H1
              clear H1
              replace H := Option.bind_eq_some_iff.mp H
              obtain ⟨t116, A190, H⟩ := H
              replace H : (some t116) = some r := H
              have A19 := Aside0.mk A190
              clear A190
              obtain rfl := Option.some.inj H
              go_wp2_with (first | ((with_reducible refine gate_callee (f := 64) rfl ?_); refine goesL_ (some 21) rfl rfl Try.func64 (by kernel_rfl) rfl #[.slice A0 l0.length c0, .slice A1 l1.length c1] rfl (by (try simp only [List.map_toArray, List.map_cons, List.map_nil]); first | done | rfl | (simp only [List.length_drop, List.length_take]; rfl)) ?_; (with_reducible refine (matrix_Mul.calls kj2 _ _ l0 _ _ l1 t104 t107 _ ?side1 ?side2 ?side3 ?side4 A10.out).mono ?_); (case side1 => repeat (first | exact (Kd.C_below HR0.out HB.out) | (with_reducible refine Kd.C_alloc ?_ _) | (with_reducible refine Kd.C_drewN ?_ _) | (with_reducible refine Kd.C_drew ?_))); (case side2 => exact HC0.out); (case side3 => repeat (first | exact (Kd.C_below HR1.out HB.out) | (with_reducible refine Kd.C_alloc ?_ _) | (with_reducible refine Kd.C_drewN ?_ _) | (with_reducible refine Kd.C_drew ?_))); (case side4 => exact HC1.out); rintro e w20 ⟨v105, rfl, ho0, hb⟩; refine ⟨_, rfl, ?_⟩; have n0_ := Aside0.mk (Kd.N_lower (Kd.N_mono (ok' := fun k_ => True) ho0 (fun k_ hk_ => trivial)) (below_size (by repeat (first | (with_reducible first | exact HB.out | apply below_alloc | apply pw_below_drewN | apply below_drew1) | exact HB.out)))); have n1_ := Aside0.mk (below_step (by repeat (first | (with_reducible first | exact HB.out | apply below_alloc | apply pw_below_drewN | apply below_drew1) | exact HB.out)) hb); clear HB; have HO106 := n0_; have HB := n1_; clear n0_ n1_; (try clear hb); (try clear hb2); (try clear hk); (try clear hi); (try clear ho0)) | ((with_reducible refine gate_callee (f := 55) rfl ?_); refine goesL_ (some 27) rfl rfl Try.func55 (by kernel_rfl) rfl #[.slice A0 l0.length c0, .slice A1 l1.length c1] rfl (by (try simp only [List.map_toArray, List.map_cons, List.map_nil]); first | done | rfl | (simp only [List.length_drop, List.length_take]; rfl)) ?_; (with_reducible refine (mooringref02_Mul.calls kj2 _ _ l0 _ _ l1 t108 t109 _ ?side1 ?side2 ?side3 ?side4 A11.out).mono ?_); (case side1 => repeat (first | exact (Kd.C_below HR0.out HB.out) | (with_reducible refine Kd.C_alloc ?_ _) | (with_reducible refine Kd.C_drewN ?_ _) | (with_reducible refine Kd.C_drew ?_))); (case side2 => exact HC0.out); (case side3 => repeat (first | exact (Kd.C_below HR1.out HB.out) | (with_reducible refine Kd.C_alloc ?_ _) | (with_reducible refine Kd.C_drewN ?_ _) | (with_reducible refine Kd.C_drew ?_))); (case side4 => exact HC1.out); rintro e w21 ⟨v110, rfl, ho0, hb⟩; refine ⟨_, rfl, ?_⟩; have n0_ := Aside0.mk (Kd.N_elder' (by (with_reducible repeat (first | apply Kd.N_alloc | apply Kd.N_drewN | apply Kd.N_drew)); exact HO106.out) (by first | exact Kd.N_base ho0 | exact Kd.S_base ho0) hb); have n1_ := Aside0.mk (Kd.N_lower (Kd.N_mono (ok' := fun k_ => some k_ ≠ (v105 : Value).ownBlock) (Kd.S_N (Kd.S_bound ho0)) (fun k_ hk_ => (Kd.fresh' (Kd.N_lt (by (with_reducible repeat (first | apply Kd.N_alloc | apply Kd.N_drewN | apply Kd.N_drew)); exact HO106.out)) k_ hk_.2.1))) (below_size (by repeat (first | (with_reducible first | exact HB.out | apply below_alloc | apply pw_below_drewN | apply below_drew1) | exact HB.out)))); have n2_ := Aside0.mk (below_step (by repeat (first | (with_reducible first | exact HB.out | apply below_alloc | apply pw_below_drewN | apply below_drew1) | exact HB.out)) hb); clear HO106; clear HB; have HO106 := n0_; have HO111 := n1_; have HB := n2_; clear n0_ n1_ n2_; (try clear hb); (try clear hb2); (try clear hk); (try clear hi); (try clear ho0)) | ((with_reducible refine gate_callee (f := 65) rfl ?_); refine goesL_ (some 31) rfl rfl Try.func65 (by kernel_rfl) rfl #[.slice A0 l0.length c0] rfl (by (try simp only [List.map_toArray, List.map_cons, List.map_nil]); first | done | rfl | (simp only [List.length_drop, List.length_take]; rfl)) ?_; (with_reducible refine (matrix_Check.calls kj2 _ _ l0 t112 _ ?side1 ?side2 A12.out).mono ?_); (case side1 => repeat (first | exact (Kd.C_below HR0.out HB.out) | (with_reducible refine Kd.C_alloc ?_ _) | (with_reducible refine Kd.C_drewN ?_ _) | (with_reducible refine Kd.C_drew ?_))); (case side2 => exact HC0.out); rintro e w' ⟨rfl, ⟨nd, rfl⟩⟩; refine ⟨_, rfl, ?_⟩) | ((with_reducible refine gate_callee (f := 53) rfl ?_); refine goesL_ (some 33) rfl rfl Try.func53 (by kernel_rfl) rfl #[.slice A0 l0.length c0] rfl (by (try simp only [List.map_toArray, List.map_cons, List.map_nil]); first | done | rfl | (simp only [List.length_drop, List.length_take]; rfl)) ?_; (with_reducible refine (mooringref02_May.calls kj2 _ _ l0 t113 _ ?side1 ?side2 A13.out).mono ?_); (case side1 => repeat (first | exact (Kd.C_below HR0.out (by repeat (first | (with_reducible first | exact HB.out | apply below_alloc | apply pw_below_drewN | apply below_drew1) | exact HB.out))) | (with_reducible refine Kd.C_alloc ?_ _) | (with_reducible refine Kd.C_drewN ?_ _) | (with_reducible refine Kd.C_drew ?_))); (case side2 => exact HC0.out); rintro e w' ⟨rfl, ⟨nd, rfl⟩⟩; refine ⟨_, rfl, ?_⟩) | ((with_reducible refine gate_callee (f := 66) rfl ?_); refine goesL_ (some 34) rfl rfl Try.func66 (by kernel_rfl) rfl #[.bool t113] rfl (by (try simp only [List.map_toArray, List.map_cons, List.map_nil]); first | done | rfl | (simp only [List.length_drop, List.length_take]; rfl)) ?_; (with_reducible refine (mooringlaw02_errno.calls t113 t114 _ A14.out).mono ?_); rintro e w' ⟨rfl, ⟨nd, rfl⟩⟩; refine ⟨_, rfl, ?_⟩; obtain ⟨Ao22, co22, eo22⟩ := Kd.N_slice HO106.out; subst eo22; obtain ⟨Ao23, co23, eo23⟩ := Kd.N_slice HO111.out; subst eo23) | (go_at_call 57; (with_reducible refine (mooringref02_Same.calls kj2 _ _ t104 _ _ t108 true _ ?side1 ?side2 ?side3 ?side4 A17.out).mono ?_); (case side1 => repeat (first | exact (Kd.N_reads' HO106.out).2.2 | (with_reducible refine Kd.C_alloc ?_ _) | (with_reducible refine Kd.C_drewN ?_ _) | (with_reducible refine Kd.C_drew ?_))); (case side2 => exact (Kd.N_reads' HO106.out).2.1); (case side3 => repeat (first | exact (Kd.N_reads' HO111.out).2.2 | (with_reducible refine Kd.C_alloc ?_ _) | (with_reducible refine Kd.C_drewN ?_ _) | (with_reducible refine Kd.C_drew ?_))); (case side4 => exact (Kd.N_reads' HO111.out).2.1); rintro e w' ⟨rfl, ⟨nd, rfl⟩⟩) | (go_at_call 51; (with_reducible refine (mooringlaw02_awake.calls  t116 _ A19.out).mono ?_); rintro e w24 ⟨rfl, hb⟩; have n0_ := Aside0.mk (Kd.N_below (by (with_reducible repeat (first | apply Kd.N_alloc | apply Kd.N_drewN | apply Kd.N_drew)); exact HO106.out) hb); have n1_ := Aside0.mk (Kd.N_below (by (with_reducible repeat (first | apply Kd.N_alloc | apply Kd.N_drewN | apply Kd.N_drew)); exact HO111.out) hb); have n2_ := Aside0.mk (below_step (by repeat (first | (with_reducible first | exact HB.out | apply below_alloc | apply pw_below_drewN | apply below_drew1) | exact HB.out)) hb); clear HO106; clear HO111; clear HB; have HO106 := n0_; have HO111 := n1_; have HB := n2_; clear n0_ n1_ n2_; (try clear hb); (try clear hb2); (try clear hk); (try clear hi)))
              go_ret
              exact ⟨by first | rfl | (simp [errW_none, errW_some] <;> rfl) | (simp [*, errW_none, errW_some] <;> rfl), by repeat (first | (with_reducible first | exact HB.out | apply below_alloc | apply pw_below_drewN | apply below_drew1) | exact HB.out)⟩
            · replace c18 := Bool.eq_false_iff.mpr c18
              subst c18
              have H1 : (some false) = some r := by rw [if_neg (show ¬ (false = true) by decide)] at H; exact H
              clear H
              have H := H1
              clear H1
              obtain rfl := Option.some.inj H
              go_wp2_with (first | ((with_reducible refine gate_callee (f := 64) rfl ?_); refine goesL_ (some 21) rfl rfl Try.func64 (by kernel_rfl) rfl #[.slice A0 l0.length c0, .slice A1 l1.length c1] rfl (by (try simp only [List.map_toArray, List.map_cons, List.map_nil]); first | done | rfl | (simp only [List.length_drop, List.length_take]; rfl)) ?_; (with_reducible refine (matrix_Mul.calls kj2 _ _ l0 _ _ l1 t104 t107 _ ?side1 ?side2 ?side3 ?side4 A10.out).mono ?_); (case side1 => repeat (first | exact (Kd.C_below HR0.out HB.out) | (with_reducible refine Kd.C_alloc ?_ _) | (with_reducible refine Kd.C_drewN ?_ _) | (with_reducible refine Kd.C_drew ?_))); (case side2 => exact HC0.out); (case side3 => repeat (first | exact (Kd.C_below HR1.out HB.out) | (with_reducible refine Kd.C_alloc ?_ _) | (with_reducible refine Kd.C_drewN ?_ _) | (with_reducible refine Kd.C_drew ?_))); (case side4 => exact HC1.out); rintro e w25 ⟨v105, rfl, ho0, hb⟩; refine ⟨_, rfl, ?_⟩; have n0_ := Aside0.mk (Kd.N_lower (Kd.N_mono (ok' := fun k_ => True) ho0 (fun k_ hk_ => trivial)) (below_size (by repeat (first | (with_reducible first | exact HB.out | apply below_alloc | apply pw_below_drewN | apply below_drew1) | exact HB.out)))); have n1_ := Aside0.mk (below_step (by repeat (first | (with_reducible first | exact HB.out | apply below_alloc | apply pw_below_drewN | apply below_drew1) | exact HB.out)) hb); clear HB; have HO106 := n0_; have HB := n1_; clear n0_ n1_; (try clear hb); (try clear hb2); (try clear hk); (try clear hi); (try clear ho0)) | ((with_reducible refine gate_callee (f := 55) rfl ?_); refine goesL_ (some 27) rfl rfl Try.func55 (by kernel_rfl) rfl #[.slice A0 l0.length c0, .slice A1 l1.length c1] rfl (by (try simp only [List.map_toArray, List.map_cons, List.map_nil]); first | done | rfl | (simp only [List.length_drop, List.length_take]; rfl)) ?_; (with_reducible refine (mooringref02_Mul.calls kj2 _ _ l0 _ _ l1 t108 t109 _ ?side1 ?side2 ?side3 ?side4 A11.out).mono ?_); (case side1 => repeat (first | exact (Kd.C_below HR0.out HB.out) | (with_reducible refine Kd.C_alloc ?_ _) | (with_reducible refine Kd.C_drewN ?_ _) | (with_reducible refine Kd.C_drew ?_))); (case side2 => exact HC0.out); (case side3 => repeat (first | exact (Kd.C_below HR1.out HB.out) | (with_reducible refine Kd.C_alloc ?_ _) | (with_reducible refine Kd.C_drewN ?_ _) | (with_reducible refine Kd.C_drew ?_))); (case side4 => exact HC1.out); rintro e w26 ⟨v110, rfl, ho0, hb⟩; refine ⟨_, rfl, ?_⟩; have n0_ := Aside0.mk (Kd.N_elder' (by (with_reducible repeat (first | apply Kd.N_alloc | apply Kd.N_drewN | apply Kd.N_drew)); exact HO106.out) (by first | exact Kd.N_base ho0 | exact Kd.S_base ho0) hb); have n1_ := Aside0.mk (Kd.N_lower (Kd.N_mono (ok' := fun k_ => some k_ ≠ (v105 : Value).ownBlock) (Kd.S_N (Kd.S_bound ho0)) (fun k_ hk_ => (Kd.fresh' (Kd.N_lt (by (with_reducible repeat (first | apply Kd.N_alloc | apply Kd.N_drewN | apply Kd.N_drew)); exact HO106.out)) k_ hk_.2.1))) (below_size (by repeat (first | (with_reducible first | exact HB.out | apply below_alloc | apply pw_below_drewN | apply below_drew1) | exact HB.out)))); have n2_ := Aside0.mk (below_step (by repeat (first | (with_reducible first | exact HB.out | apply below_alloc | apply pw_below_drewN | apply below_drew1) | exact HB.out)) hb); clear HO106; clear HB; have HO106 := n0_; have HO111 := n1_; have HB := n2_; clear n0_ n1_ n2_; (try clear hb); (try clear hb2); (try clear hk); (try clear hi); (try clear ho0)) | ((with_reducible refine gate_callee (f := 65) rfl ?_); refine goesL_ (some 31) rfl rfl Try.func65 (by kernel_rfl) rfl #[.slice A0 l0.length c0] rfl (by (try simp only [List.map_toArray, List.map_cons, List.map_nil]); first | done | rfl | (simp only [List.length_drop, List.length_take]; rfl)) ?_; (with_reducible refine (matrix_Check.calls kj2 _ _ l0 t112 _ ?side1 ?side2 A12.out).mono ?_); (case side1 => repeat (first | exact (Kd.C_below HR0.out HB.out) | (with_reducible refine Kd.C_alloc ?_ _) | (with_reducible refine Kd.C_drewN ?_ _) | (with_reducible refine Kd.C_drew ?_))); (case side2 => exact HC0.out); rintro e w' ⟨rfl, ⟨nd, rfl⟩⟩; refine ⟨_, rfl, ?_⟩) | ((with_reducible refine gate_callee (f := 53) rfl ?_); refine goesL_ (some 33) rfl rfl Try.func53 (by kernel_rfl) rfl #[.slice A0 l0.length c0] rfl (by (try simp only [List.map_toArray, List.map_cons, List.map_nil]); first | done | rfl | (simp only [List.length_drop, List.length_take]; rfl)) ?_; (with_reducible refine (mooringref02_May.calls kj2 _ _ l0 t113 _ ?side1 ?side2 A13.out).mono ?_); (case side1 => repeat (first | exact (Kd.C_below HR0.out (by repeat (first | (with_reducible first | exact HB.out | apply below_alloc | apply pw_below_drewN | apply below_drew1) | exact HB.out))) | (with_reducible refine Kd.C_alloc ?_ _) | (with_reducible refine Kd.C_drewN ?_ _) | (with_reducible refine Kd.C_drew ?_))); (case side2 => exact HC0.out); rintro e w' ⟨rfl, ⟨nd, rfl⟩⟩; refine ⟨_, rfl, ?_⟩) | ((with_reducible refine gate_callee (f := 66) rfl ?_); refine goesL_ (some 34) rfl rfl Try.func66 (by kernel_rfl) rfl #[.bool t113] rfl (by (try simp only [List.map_toArray, List.map_cons, List.map_nil]); first | done | rfl | (simp only [List.length_drop, List.length_take]; rfl)) ?_; (with_reducible refine (mooringlaw02_errno.calls t113 t114 _ A14.out).mono ?_); rintro e w' ⟨rfl, ⟨nd, rfl⟩⟩; refine ⟨_, rfl, ?_⟩; obtain ⟨Ao27, co27, eo27⟩ := Kd.N_slice HO106.out; subst eo27; obtain ⟨Ao28, co28, eo28⟩ := Kd.N_slice HO111.out; subst eo28) | (go_at_call 57; (with_reducible refine (mooringref02_Same.calls kj2 _ _ t104 _ _ t108 false _ ?side1 ?side2 ?side3 ?side4 A17.out).mono ?_); (case side1 => repeat (first | exact (Kd.N_reads' HO106.out).2.2 | (with_reducible refine Kd.C_alloc ?_ _) | (with_reducible refine Kd.C_drewN ?_ _) | (with_reducible refine Kd.C_drew ?_))); (case side2 => exact (Kd.N_reads' HO106.out).2.1); (case side3 => repeat (first | exact (Kd.N_reads' HO111.out).2.2 | (with_reducible refine Kd.C_alloc ?_ _) | (with_reducible refine Kd.C_drewN ?_ _) | (with_reducible refine Kd.C_drew ?_))); (case side4 => exact (Kd.N_reads' HO111.out).2.1); rintro e w' ⟨rfl, ⟨nd, rfl⟩⟩))
              go_ret
              exact ⟨by first | rfl | (simp [errW_none, errW_some] <;> rfl) | (simp [*, errW_none, errW_some] <;> rfl), by repeat (first | (with_reducible first | exact HB.out | apply below_alloc | apply pw_below_drewN | apply below_drew1) | exact HB.out)⟩
          · rw [if_neg c16] at H
            have c16b0 : (t107 == t109) = false := beq_eq_false_iff_ne.mpr c16
            have c16b1 : (t107 != t109) = true := bne_iff_ne.mpr c16
            obtain rfl := Option.some.inj H
            go_wp2_with (first | ((with_reducible refine gate_callee (f := 64) rfl ?_); refine goesL_ (some 21) rfl rfl Try.func64 (by kernel_rfl) rfl #[.slice A0 l0.length c0, .slice A1 l1.length c1] rfl (by (try simp only [List.map_toArray, List.map_cons, List.map_nil]); first | done | rfl | (simp only [List.length_drop, List.length_take]; rfl)) ?_; (with_reducible refine (matrix_Mul.calls kj2 _ _ l0 _ _ l1 t104 t107 _ ?side1 ?side2 ?side3 ?side4 A10.out).mono ?_); (case side1 => repeat (first | exact (Kd.C_below HR0.out HB.out) | (with_reducible refine Kd.C_alloc ?_ _) | (with_reducible refine Kd.C_drewN ?_ _) | (with_reducible refine Kd.C_drew ?_))); (case side2 => exact HC0.out); (case side3 => repeat (first | exact (Kd.C_below HR1.out HB.out) | (with_reducible refine Kd.C_alloc ?_ _) | (with_reducible refine Kd.C_drewN ?_ _) | (with_reducible refine Kd.C_drew ?_))); (case side4 => exact HC1.out); rintro e w29 ⟨v105, rfl, ho0, hb⟩; refine ⟨_, rfl, ?_⟩; have n0_ := Aside0.mk (Kd.N_lower (Kd.N_mono (ok' := fun k_ => True) ho0 (fun k_ hk_ => trivial)) (below_size (by repeat (first | (with_reducible first | exact HB.out | apply below_alloc | apply pw_below_drewN | apply below_drew1) | exact HB.out)))); have n1_ := Aside0.mk (below_step (by repeat (first | (with_reducible first | exact HB.out | apply below_alloc | apply pw_below_drewN | apply below_drew1) | exact HB.out)) hb); clear HB; have HO106 := n0_; have HB := n1_; clear n0_ n1_; (try clear hb); (try clear hb2); (try clear hk); (try clear hi); (try clear ho0)) | ((with_reducible refine gate_callee (f := 55) rfl ?_); refine goesL_ (some 27) rfl rfl Try.func55 (by kernel_rfl) rfl #[.slice A0 l0.length c0, .slice A1 l1.length c1] rfl (by (try simp only [List.map_toArray, List.map_cons, List.map_nil]); first | done | rfl | (simp only [List.length_drop, List.length_take]; rfl)) ?_; (with_reducible refine (mooringref02_Mul.calls kj2 _ _ l0 _ _ l1 t108 t109 _ ?side1 ?side2 ?side3 ?side4 A11.out).mono ?_); (case side1 => repeat (first | exact (Kd.C_below HR0.out HB.out) | (with_reducible refine Kd.C_alloc ?_ _) | (with_reducible refine Kd.C_drewN ?_ _) | (with_reducible refine Kd.C_drew ?_))); (case side2 => exact HC0.out); (case side3 => repeat (first | exact (Kd.C_below HR1.out HB.out) | (with_reducible refine Kd.C_alloc ?_ _) | (with_reducible refine Kd.C_drewN ?_ _) | (with_reducible refine Kd.C_drew ?_))); (case side4 => exact HC1.out); rintro e w30 ⟨v110, rfl, ho0, hb⟩; refine ⟨_, rfl, ?_⟩; have n0_ := Aside0.mk (Kd.N_elder' (by (with_reducible repeat (first | apply Kd.N_alloc | apply Kd.N_drewN | apply Kd.N_drew)); exact HO106.out) (by first | exact Kd.N_base ho0 | exact Kd.S_base ho0) hb); have n1_ := Aside0.mk (Kd.N_lower (Kd.N_mono (ok' := fun k_ => some k_ ≠ (v105 : Value).ownBlock) (Kd.S_N (Kd.S_bound ho0)) (fun k_ hk_ => (Kd.fresh' (Kd.N_lt (by (with_reducible repeat (first | apply Kd.N_alloc | apply Kd.N_drewN | apply Kd.N_drew)); exact HO106.out)) k_ hk_.2.1))) (below_size (by repeat (first | (with_reducible first | exact HB.out | apply below_alloc | apply pw_below_drewN | apply below_drew1) | exact HB.out)))); have n2_ := Aside0.mk (below_step (by repeat (first | (with_reducible first | exact HB.out | apply below_alloc | apply pw_below_drewN | apply below_drew1) | exact HB.out)) hb); clear HO106; clear HB; have HO106 := n0_; have HO111 := n1_; have HB := n2_; clear n0_ n1_ n2_; (try clear hb); (try clear hb2); (try clear hk); (try clear hi); (try clear ho0)) | ((with_reducible refine gate_callee (f := 65) rfl ?_); refine goesL_ (some 31) rfl rfl Try.func65 (by kernel_rfl) rfl #[.slice A0 l0.length c0] rfl (by (try simp only [List.map_toArray, List.map_cons, List.map_nil]); first | done | rfl | (simp only [List.length_drop, List.length_take]; rfl)) ?_; (with_reducible refine (matrix_Check.calls kj2 _ _ l0 t112 _ ?side1 ?side2 A12.out).mono ?_); (case side1 => repeat (first | exact (Kd.C_below HR0.out HB.out) | (with_reducible refine Kd.C_alloc ?_ _) | (with_reducible refine Kd.C_drewN ?_ _) | (with_reducible refine Kd.C_drew ?_))); (case side2 => exact HC0.out); rintro e w' ⟨rfl, ⟨nd, rfl⟩⟩; refine ⟨_, rfl, ?_⟩) | ((with_reducible refine gate_callee (f := 53) rfl ?_); refine goesL_ (some 33) rfl rfl Try.func53 (by kernel_rfl) rfl #[.slice A0 l0.length c0] rfl (by (try simp only [List.map_toArray, List.map_cons, List.map_nil]); first | done | rfl | (simp only [List.length_drop, List.length_take]; rfl)) ?_; (with_reducible refine (mooringref02_May.calls kj2 _ _ l0 t113 _ ?side1 ?side2 A13.out).mono ?_); (case side1 => repeat (first | exact (Kd.C_below HR0.out (by repeat (first | (with_reducible first | exact HB.out | apply below_alloc | apply pw_below_drewN | apply below_drew1) | exact HB.out))) | (with_reducible refine Kd.C_alloc ?_ _) | (with_reducible refine Kd.C_drewN ?_ _) | (with_reducible refine Kd.C_drew ?_))); (case side2 => exact HC0.out); rintro e w' ⟨rfl, ⟨nd, rfl⟩⟩; refine ⟨_, rfl, ?_⟩) | ((with_reducible refine gate_callee (f := 66) rfl ?_); refine goesL_ (some 34) rfl rfl Try.func66 (by kernel_rfl) rfl #[.bool t113] rfl (by (try simp only [List.map_toArray, List.map_cons, List.map_nil]); first | done | rfl | (simp only [List.length_drop, List.length_take]; rfl)) ?_; (with_reducible refine (mooringlaw02_errno.calls t113 t114 _ A14.out).mono ?_); rintro e w' ⟨rfl, ⟨nd, rfl⟩⟩; refine ⟨_, rfl, ?_⟩))
            go_ret
            exact ⟨by first | rfl | (simp [errW_none, errW_some] <;> rfl) | (simp [*, errW_none, errW_some] <;> rfl), by repeat (first | (with_reducible first | exact HB.out | apply below_alloc | apply pw_below_drewN | apply below_drew1) | exact HB.out)⟩
        · rw [if_neg c15] at H
          have c15b0 : (t112 == t114) = false := beq_eq_false_iff_ne.mpr c15
          have c15b1 : (t112 != t114) = true := bne_iff_ne.mpr c15
          obtain rfl := Option.some.inj H
          go_wp2_with (first | ((with_reducible refine gate_callee (f := 64) rfl ?_); refine goesL_ (some 21) rfl rfl Try.func64 (by kernel_rfl) rfl #[.slice A0 l0.length c0, .slice A1 l1.length c1] rfl (by (try simp only [List.map_toArray, List.map_cons, List.map_nil]); first | done | rfl | (simp only [List.length_drop, List.length_take]; rfl)) ?_; (with_reducible refine (matrix_Mul.calls kj2 _ _ l0 _ _ l1 t104 t107 _ ?side1 ?side2 ?side3 ?side4 A10.out).mono ?_); (case side1 => repeat (first | exact (Kd.C_below HR0.out HB.out) | (with_reducible refine Kd.C_alloc ?_ _) | (with_reducible refine Kd.C_drewN ?_ _) | (with_reducible refine Kd.C_drew ?_))); (case side2 => exact HC0.out); (case side3 => repeat (first | exact (Kd.C_below HR1.out HB.out) | (with_reducible refine Kd.C_alloc ?_ _) | (with_reducible refine Kd.C_drewN ?_ _) | (with_reducible refine Kd.C_drew ?_))); (case side4 => exact HC1.out); rintro e w31 ⟨v105, rfl, ho0, hb⟩; refine ⟨_, rfl, ?_⟩; have n0_ := Aside0.mk (Kd.N_lower (Kd.N_mono (ok' := fun k_ => True) ho0 (fun k_ hk_ => trivial)) (below_size (by repeat (first | (with_reducible first | exact HB.out | apply below_alloc | apply pw_below_drewN | apply below_drew1) | exact HB.out)))); have n1_ := Aside0.mk (below_step (by repeat (first | (with_reducible first | exact HB.out | apply below_alloc | apply pw_below_drewN | apply below_drew1) | exact HB.out)) hb); clear HB; have HO106 := n0_; have HB := n1_; clear n0_ n1_; (try clear hb); (try clear hb2); (try clear hk); (try clear hi); (try clear ho0)) | ((with_reducible refine gate_callee (f := 55) rfl ?_); refine goesL_ (some 27) rfl rfl Try.func55 (by kernel_rfl) rfl #[.slice A0 l0.length c0, .slice A1 l1.length c1] rfl (by (try simp only [List.map_toArray, List.map_cons, List.map_nil]); first | done | rfl | (simp only [List.length_drop, List.length_take]; rfl)) ?_; (with_reducible refine (mooringref02_Mul.calls kj2 _ _ l0 _ _ l1 t108 t109 _ ?side1 ?side2 ?side3 ?side4 A11.out).mono ?_); (case side1 => repeat (first | exact (Kd.C_below HR0.out HB.out) | (with_reducible refine Kd.C_alloc ?_ _) | (with_reducible refine Kd.C_drewN ?_ _) | (with_reducible refine Kd.C_drew ?_))); (case side2 => exact HC0.out); (case side3 => repeat (first | exact (Kd.C_below HR1.out HB.out) | (with_reducible refine Kd.C_alloc ?_ _) | (with_reducible refine Kd.C_drewN ?_ _) | (with_reducible refine Kd.C_drew ?_))); (case side4 => exact HC1.out); rintro e w32 ⟨v110, rfl, ho0, hb⟩; refine ⟨_, rfl, ?_⟩; have n0_ := Aside0.mk (Kd.N_elder' (by (with_reducible repeat (first | apply Kd.N_alloc | apply Kd.N_drewN | apply Kd.N_drew)); exact HO106.out) (by first | exact Kd.N_base ho0 | exact Kd.S_base ho0) hb); have n1_ := Aside0.mk (Kd.N_lower (Kd.N_mono (ok' := fun k_ => some k_ ≠ (v105 : Value).ownBlock) (Kd.S_N (Kd.S_bound ho0)) (fun k_ hk_ => (Kd.fresh' (Kd.N_lt (by (with_reducible repeat (first | apply Kd.N_alloc | apply Kd.N_drewN | apply Kd.N_drew)); exact HO106.out)) k_ hk_.2.1))) (below_size (by repeat (first | (with_reducible first | exact HB.out | apply below_alloc | apply pw_below_drewN | apply below_drew1) | exact HB.out)))); have n2_ := Aside0.mk (below_step (by repeat (first | (with_reducible first | exact HB.out | apply below_alloc | apply pw_below_drewN | apply below_drew1) | exact HB.out)) hb); clear HO106; clear HB; have HO106 := n0_; have HO111 := n1_; have HB := n2_; clear n0_ n1_ n2_; (try clear hb); (try clear hb2); (try clear hk); (try clear hi); (try clear ho0)) | ((with_reducible refine gate_callee (f := 65) rfl ?_); refine goesL_ (some 31) rfl rfl Try.func65 (by kernel_rfl) rfl #[.slice A0 l0.length c0] rfl (by (try simp only [List.map_toArray, List.map_cons, List.map_nil]); first | done | rfl | (simp only [List.length_drop, List.length_take]; rfl)) ?_; (with_reducible refine (matrix_Check.calls kj2 _ _ l0 t112 _ ?side1 ?side2 A12.out).mono ?_); (case side1 => repeat (first | exact (Kd.C_below HR0.out HB.out) | (with_reducible refine Kd.C_alloc ?_ _) | (with_reducible refine Kd.C_drewN ?_ _) | (with_reducible refine Kd.C_drew ?_))); (case side2 => exact HC0.out); rintro e w' ⟨rfl, ⟨nd, rfl⟩⟩; refine ⟨_, rfl, ?_⟩) | ((with_reducible refine gate_callee (f := 53) rfl ?_); refine goesL_ (some 33) rfl rfl Try.func53 (by kernel_rfl) rfl #[.slice A0 l0.length c0] rfl (by (try simp only [List.map_toArray, List.map_cons, List.map_nil]); first | done | rfl | (simp only [List.length_drop, List.length_take]; rfl)) ?_; (with_reducible refine (mooringref02_May.calls kj2 _ _ l0 t113 _ ?side1 ?side2 A13.out).mono ?_); (case side1 => repeat (first | exact (Kd.C_below HR0.out (by repeat (first | (with_reducible first | exact HB.out | apply below_alloc | apply pw_below_drewN | apply below_drew1) | exact HB.out))) | (with_reducible refine Kd.C_alloc ?_ _) | (with_reducible refine Kd.C_drewN ?_ _) | (with_reducible refine Kd.C_drew ?_))); (case side2 => exact HC0.out); rintro e w' ⟨rfl, ⟨nd, rfl⟩⟩; refine ⟨_, rfl, ?_⟩) | ((with_reducible refine gate_callee (f := 66) rfl ?_); refine goesL_ (some 34) rfl rfl Try.func66 (by kernel_rfl) rfl #[.bool t113] rfl (by (try simp only [List.map_toArray, List.map_cons, List.map_nil]); first | done | rfl | (simp only [List.length_drop, List.length_take]; rfl)) ?_; (with_reducible refine (mooringlaw02_errno.calls t113 t114 _ A14.out).mono ?_); rintro e w' ⟨rfl, ⟨nd, rfl⟩⟩; refine ⟨_, rfl, ?_⟩))
          go_ret
          exact ⟨by first | rfl | (simp [errW_none, errW_some] <;> rfl) | (simp [*, errW_none, errW_some] <;> rfl), by repeat (first | (with_reducible first | exact HB.out | apply below_alloc | apply pw_below_drewN | apply below_drew1) | exact HB.out)⟩

end Go.Proofs.Ytbogmlckbkogiaa.P

/- For any two slices of rows of bytes the program's Check and Mul answer as the reference's (the law MatrixMuls answers true). Conditions: none. -/
namespace Go.Proofs.Ytbogmlckbkogiaa.Pure
open Go.RowKit Go.Proofs.YtbogmlckbkogiaaW.PrintWords Go.Proofs.Ytbogmlckbkogiaa.Leaf Go.Proofs.Ytbogmlckbkogiaa.P Go.Proofs.Ytbogmlckbkogiaa.Gf Go.Proofs.Ytbogmlckbkogiaa.Red Go.Proofs.Ytbogmlckbkogiaa.H
set_option linter.unusedSimpArgs false
set_option linter.unusedVariables false
def lightB (A : Mat) : Bool := decide (A.length ≤ 40) && (decide (A.length = 0) || decide ((row A 0).length ≤ 40))
theorem light_eq (A : Mat) : mooringlaw02_light.f (oM A) = some (lightB A) := by
  unfold mooringlaw02_light.f lightB
  simp only [oM_length, rd_oM0, ofL_length]
  by_cases h1 : A.length ≤ 40
  · rw [if_pos (by omega), decide_eq_true h1]
    by_cases h2 : A.length = 0
    · rw [if_pos (by omega), decide_eq_true h2]; rfl
    · rw [if_neg (by omega), if_pos (by omega), decide_eq_false h2]
      simp only [Bool.true_and, Bool.false_or, Option.some.injEq]
      by_cases h3 : (row A 0).length ≤ 40
      · rw [decide_eq_true h3, decide_eq_true (by omega)]
      · rw [decide_eq_false h3, decide_eq_false (by omega)]
  · rw [if_neg (by omega), decide_eq_false h1]; rfl
theorem mulR_oM (A C : Mat) : ∃ X, (mulR A C).1 = oM X ∧ X.length ≤ 255 := by
  unfold mulR
  by_cases h : mayB A = true ∧ mayB C = true ∧ (row A 0).length = C.length
  · rw [if_pos h]
    have := (mayB_reg h.1).2.2.1
    exact ⟨_, rfl, by unfold mulM; rw [(matF_reg _ _ _).1]; exact this⟩
  · rw [if_neg h]
    exact ⟨[], rfl, by decide⟩
theorem MatrixMuls (A : Mat) (hs : A.length * 24 ≤ 140737488351232) (hr : ∀ i, i < A.length → (row A i).length ≤ 140737488351232) (C : Mat) (hs2 : C.length * 24 ≤ 140737488351232) (hr2 : ∀ i, i < C.length → (row C i).length ≤ 140737488351232) :
    Ev (fun k => mooringlaw02_MatrixMuls.f k (oM A) (oM C)) true := by
  have j1 : Ev (fun k => mooringlaw02_MatrixMuls.j0 k (oM A) (oM C) true) true := Ev.step (f := fun _ => some true) (fun k => by simp only [mooringlaw02_MatrixMuls.j0, if_true, mooringlaw02_awake.f, Option.bind_some]) (Ev.now _)
  unfold mooringlaw02_MatrixMuls.f
  simp only [light_eq, Option.bind_some]
  cases h1 : lightB A with
  | false => simp only [Bool.false_eq_true, if_false]; exact j1
  | true =>
    simp only [if_true]
    cases h2 : lightB C with
    | false => exact j1
    | true =>
      obtain ⟨X, hX, hXl⟩ := mulR_oM A C
      refine Ev.step (f := fun k => (matrix_Mul.f k (oM A) (oM C)).bind fun bt104 => (mooringref02_Mul.f k (oM A) (oM C)).bind fun bt108 => (matrix_Check.f k (oM A)).bind fun t112 => (mooringref02_May.f k (oM A)).bind fun t113 => (mooringlaw02_errno.f t113).bind fun t114 => if t112 = t114 then (if bt104.2 = bt108.2 then (mooringref02_Same.f k bt104.1 bt108.1).bind fun t115 => if t115 = true then (mooringlaw02_awake.f).bind fun t116 => some t116 else some false else some false) else some false) (fun k => by simp only [mooringlaw02_MatrixMuls.j0, Bool.not_true, Bool.false_eq_true, if_false]) ?_
      refine Ev.bind (evMul A C (by omega) (by omega)) ?_
      refine Ev.bind (evRefMul A C (by omega) (by omega)) ?_
      refine Ev.bind (evCheck A (by omega)) ?_
      refine Ev.bind (evMay A (by omega)) ?_
      have he : mooringlaw02_errno.f (mayB A) = some (if mayB A = true then 0 else 1) := by unfold mooringlaw02_errno.f; cases mayB A <;> rfl
      simp only [he, Option.bind_some, if_true, hX]
      refine Ev.bind (evSame X X (by omega)) ?_
      simp only [decide_true, if_true, mooringlaw02_awake.f, Option.bind_some]
      exact Ev.now _
end Go.Proofs.Ytbogmlckbkogiaa.Pure

/- An inverse is told just if there is one, and is one on both sides (the law MatrixInverts answers true). Conditions: none. -/
namespace Go.Proofs.Ytbogmlckbkogiaa.Pure
open Go.RowKit Go.Proofs.YtbogmlckbkogiaaW.PrintWords Go.Proofs.Ytbogmlckbkogiaa.Leaf Go.Proofs.Ytbogmlckbkogiaa.P Go.Proofs.Ytbogmlckbkogiaa.Gf Go.Proofs.Ytbogmlckbkogiaa.Red Go.Proofs.Ytbogmlckbkogiaa.H Go.Proofs.Ytbogmlckbkogiaa.Mx
set_option linter.unusedSimpArgs false
set_option linter.unusedVariables false
theorem rank_f (A : Mat) (h : mayB A = true) : mooringref02_Rank.f (oM A) = some (((redF (row A 0).length 0 0 A (zeroM A.length 1)).1 : Nat) : Int) := by
  unfold mooringref02_Rank.f
  rw [unM_oM, if_pos ⟨bytes_oM A, h⟩]
theorem MatrixInverts (A : Mat) (hs : A.length * 24 ≤ 140737488351232) (hr : ∀ i, i < A.length → (row A i).length ≤ 140737488351232) : Ev (fun k => mooringlaw02_MatrixInverts.f k (oM A)) true := by
  have j1 : Ev (fun k => mooringlaw02_MatrixInverts.j0 k (oM A) [] 1 true) true := Ev.step (f := fun _ => some true) (fun k => by simp only [mooringlaw02_MatrixInverts.j0, if_true, mooringlaw02_awake.f, Option.bind_some, List.length_nil]; rfl) (Ev.now _)
  unfold mooringlaw02_MatrixInverts.f
  simp only [light_eq, Option.bind_some]
  cases h1 : lightB A with
  | false => simp only [Bool.false_eq_true, if_false, mooringlaw02_awake.f, Option.bind_some]; exact Ev.now _
  | true =>
    simp only [if_true, matrix_Inverse.f_oM, Option.bind_some]
    refine Ev.bind (evMay A (by omega)) ?_
    cases h2 : mayB A with
    | false =>
      have : invR A = ([], 1) := by unfold invR; rw [if_neg (by rw [h2]; simp)]
      simp only [Bool.false_eq_true, if_false, this]
      exact j1
    | true =>
      obtain ⟨hA, a1, a2, a3, a4⟩ := mayB_reg h2
      simp only [if_true, oM_length, rd_oM0, ofL_length, show ((0 : Int) < (A.length : Int)) = True from eq_true (by omega)]
      by_cases h3 : A.length = (row A 0).length
      · simp only [show ((A.length : Int) != ((row A 0).length : Int)) = false by simp [h3]]
        have hrk := rank_f A h2
        have hsame := rank_same a1 hA (zeroM_reg A.length 1) (matF_reg A.length A.length I)
        rw [← idM_eq] at hsame
        rw [hsame, ← h3] at hrk
        rw [← h3] at hA
        have hle := redF_le a1 hA (matF_reg A.length A.length I)
        rw [← idM_eq] at hle
        by_cases h4 : (redF A.length 0 0 A (idM A.length)).1 < A.length
        · have hv := invR_no hA a1 a2 h4
          refine Ev.step (f := fun _ => some true) (fun k => ?_) (Ev.now _)
          simp only [mooringlaw02_MatrixInverts.j0, Bool.false_eq_true, if_false, hrk, Option.bind_some, oM_length, hv]
          rw [if_pos (by omega), if_pos trivial, if_pos (by simp)]
          rfl
        · obtain ⟨X, hX, rX, e1, e2⟩ := invR_yes hA a1 a2 (by omega)
          have m1 : mayB X = true := mayB_of rX a1 a2 a1 a2
          have q1 : mulR A X = (oM (idM A.length), 0) := by unfold mulR; rw [if_pos ⟨h2, m1, by rw [← h3, rX.1]⟩, e1]
          have q2 : mulR X A = (oM (idM A.length), 0) := by unfold mulR; rw [if_pos ⟨m1, h2, by rw [rX.2 0 a1]⟩, e2]
          refine Ev.step (f := fun k => (mooringref02_Mul.f k (oM A) (oM X)).bind fun bt112 => (mooringref02_Mul.f k (oM X) (oM A)).bind fun bt116 => (mooringref02_Identity.f k (A.length : Int)).bind fun t120 => if (0 : Int) = 0 then (if bt112.2 = 0 then (if bt116.2 = 0 then (mooringref02_Same.f k bt112.1 t120).bind fun t123 => if t123 = true then (mooringref02_Same.f k bt116.1 t120).bind fun t124 => if t124 = true then (mooringlaw02_awake.f).bind fun t125 => some t125 else some false else some false else some false) else some false) else some false) (fun k => ?_) ?_
          · simp only [mooringlaw02_MatrixInverts.j0, Bool.false_eq_true, if_false, hrk, Option.bind_some, oM_length, hX]
            rw [if_neg (by omega)]
          · refine Ev.bind (evRefMul A X (by omega) (by rw [rX.1]; omega)) ?_
            refine Ev.bind (evRefMul X A (by rw [rX.1]; omega) (by omega)) ?_
            refine Ev.bind (evRefIdentity A.length (by omega)) ?_
            rw [q1, q2]
            simp only [if_true]
            refine Ev.bind (evSame _ _ (by rw [idM_eq, (matF_reg _ _ I).1]; omega)) ?_
            simp only [decide_true, if_true]
            refine Ev.bind (evSame _ _ (by rw [idM_eq, (matF_reg _ _ I).1]; omega)) ?_
            simp only [decide_true, if_true, mooringlaw02_awake.f, Option.bind_some]
            exact Ev.now _
      · have : invR A = ([], 1) := by unfold invR; rw [if_neg (fun h => h3 h.2)]
        simp only [show ((A.length : Int) != ((row A 0).length : Int)) = true by simp; omega, this]
        exact j1
end Go.Proofs.Ytbogmlckbkogiaa.Pure

/- A slice of rows of bytes that came in, told as a matrix. Conditions: none. -/
namespace Go.Proofs.Ytbogmlckbkogiaa.H
open Go.RowKit Go.ChangeShapes Go.WideShapes Go.Deep Go.Proofs.YtbogmlckbkogiaaW.PrintWords Go.Proofs.Ytbogmlckbkogiaa.Leaf Go.Proofs.Ytbogmlckbkogiaa.Gf Go.Proofs.Ytbogmlckbkogiaa.Red
set_option linter.unusedVariables false
theorem rows_weights {H : Type} {P : Program} {e : TypeId} : ∀ {l : List (DataW H)} {d : DataW H}, d ∈ l → ∀ n ∈ d.weights P e, n ∈ DataW.weightsAll P e l
  | d0 :: l, d, hd, n, hn => by
    simp only [DataW.weightsAll, List.mem_append]
    rcases List.mem_cons.1 hd with rfl | hd
    · exact Or.inl hn
    · exact Or.inr (rows_weights hd n hn)
theorem u8_range {x : Int} (h : (Lit.int .u8 x).wf = true) : 0 ≤ x ∧ x < 256 := by
  have h1 : 0 ≤ x ∧ x ≤ 255 := by simpa [Lit.wf, IntKind.min, IntKind.max, IntKind.signed, IntKind.bits] using h
  omega
theorem rows_arg {H : Type} {enc : TypeId × Value → H} {W : World} {a : Option Addr} {len cap : Nat} {d : DataW H} {ps : List MemPlace} (h : DataW.Trod enc Try.prog W 0 (fun _ => true) true 51 (.slice a len cap) d ps) (hw : ∀ x ∈ d.weights Try.prog 51, x ≤ reachBytes) :
    ∃ M : Mat, len = M.length ∧ len ≤ cap ∧ Kd.C KR W a len (oM M) ∧ len * 24 ≤ 140737488351232 ∧ ∀ i, i < M.length → (row M i).length ≤ 140737488351232 := by
  obtain ⟨fuel, hf⟩ := h
  rcases open_int_rows Try.underlying51 Try.underlying22 Try.underlying5 (by kernel_rfl) (by kernel_rfl) hf with ⟨hcs, _⟩ | ⟨a', len', cap', A, L, C, Z, hcs, _, hl, hm, hx, hrow⟩
  · simp [Value.cells] at hcs
    obtain ⟨rfl, rfl, rfl⟩ := hcs
    exact ⟨[], rfl, Nat.le_refl _, Kd.C_nil _ _, by decide, fun i hi => absurd hi (Nat.not_lt_zero _)⟩
  · simp [Value.cells] at hcs
    obtain ⟨rfl, rfl, rfl⟩ := hcs
    obtain ⟨rfl, _⟩ := Prod.mk.inj hx
    have hlen : len ≤ 9223372036854775807 := by unfold maxLen at hm; omega
    let M : Mat := (List.range len).map fun r => ((Z r).take (L r)).map toB
    have hML : M.length = len := by simp [M]
    have hMr : ∀ r, r < len → row M r = ((Z r).take (L r)).map toB := fun r hr => row_map len (fun r => ((Z r).take (L r)).map toB) r hr
    have hlr : ∀ r, r < len → (row M r).length = L r := by
      intro r hr
      obtain ⟨_, h1, _, h2, _⟩ := hrow r (by omega)
      rw [hMr r hr, List.length_map, List.length_take, h2]
      omega
    have hof : ∀ r, r < len → ofL (row M r) = (Z r).take (L r) := by
      intro r hr
      obtain ⟨_, _, _, _, hz, _⟩ := hrow r (by omega)
      rw [hMr r hr]
      unfold ofL
      rw [List.map_map]
      refine (List.map_congr_left fun x hx => ?_).trans (List.map_id' _)
      have := u8_range (hz x (List.mem_of_mem_take hx))
      exact ofB_toB x this.1 this.2
    refine ⟨M, hML.symm, hl, ?_, ?_, fun r hr => ?_⟩
    · have hC := C_rows_of W a' (oM M) A C (by rw [oM_length, hML]; exact hlen) (fun r hr => by
        rw [oM_length, hML] at hr
        obtain ⟨hc, h1, h2, h3, h4, h5, h6⟩ := hrow r (by omega)
        have e : (oM M).getD r [] = ofL (row M r) := map_getD M r
        rw [e, ofL_length, hlr r hr]
        refine ⟨hc, h1, by rw [ofL_length, hlr r hr], by unfold maxLen at h2; omega, fun hp => ?_⟩
        cases hA : A r with
        | none => have := h5 hA; omega
        | some ad =>
          obtain ⟨_, h7⟩ := h6 ad hA
          refine ⟨ad, rfl, fun j p hj => ⟨[.int .u8 p], rfl, rfl, fun i u hu => ?_⟩⟩
          cases i with
          | zero =>
            cases hu
            show W.cell? (ad.add (j * 1 + 0)) = _
            rw [Nat.mul_one, Nat.add_zero]
            have hj' := (List.getElem?_eq_some_iff.1 hj).1
            rw [ofL_length, hlr r hr] at hj'
            rw [h7 j (by omega)]
            rw [hof r hr, List.getElem?_take, if_pos hj'] at hj
            rw [List.getD_eq_getElem?_getD, hj]
            rfl
          | succ i => simp at hu)
      rw [oM_length, hML] at hC
      exact hC
    · have h1 : ((len + (cap - len)) * 24) ∈ (DataW.slice ((List.range len).map fun r => intRow (H := H) .u8 (A r) (L r) (Z r)) ((List.range (cap - len)).map fun j => intRow .u8 (A (len + j)) (L (len + j)) (Z (len + j)))).weights Try.prog 51 := by
        simp only [DataW.weights, Try.underlying51, List.length_map, List.length_range]
        rw [show Try.prog.bytesOf 22 = 24 by kernel_rfl]
        exact List.mem_cons_self
      have h2 := hw _ h1
      have : reachBytes = 140737488351232 := by decide
      omega
    · rw [hML] at hr
      obtain ⟨hc, h1, h2, h3, h4, h5, h6⟩ := hrow r (by omega)
      rw [hlr r hr]
      cases hA : A r with
      | none => have := h5 hA; omega
      | some ad =>
        have hmem : intRow (H := H) .u8 (A r) (L r) (Z r) ∈ (List.range len).map fun r => intRow (H := H) .u8 (A r) (L r) (Z r) := List.mem_map.2 ⟨r, List.mem_range.2 hr, rfl⟩
        have hin := hw (((lits (H := H) .u8 ((Z r).take (L r))).length + (lits (H := H) .u8 ((Z r).drop (L r))).length) * 1) (by
          simp only [DataW.weights, Try.underlying51]
          refine List.mem_cons_of_mem _ (List.mem_append_left _ (rows_weights hmem _ ?_))
          rw [hA]
          simp only [intRow, DataW.weights, Try.underlying22]
          rw [show Try.prog.bytesOf 5 = 1 by kernel_rfl]
          exact List.mem_cons_self)
        have : reachBytes = 140737488351232 := by decide
        simp [lits] at hin
        omega
end Go.Proofs.Ytbogmlckbkogiaa.H
