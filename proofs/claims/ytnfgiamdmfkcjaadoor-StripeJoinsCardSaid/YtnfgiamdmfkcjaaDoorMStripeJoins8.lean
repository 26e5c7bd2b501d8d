/- Words and walks that the claim StripeJoins leans on (what it does not use is left out). -/
import Derived.Test.YtnfgiamdmfkcjaaDoorMStripeJoins1
import Derived.Test.YtnfgiamdmfkcjaaDoorMStripeJoins2
import Derived.Test.YtnfgiamdmfkcjaaDoorMStripeJoins5
import Derived.Test.YtnfgiamdmfkcjaaDoorMStripeJoins7
import Derived.Test.YtnfgiamdmfkcjaaDoorMStripeJoins6
namespace Go.Proofs.YtnfgiamdmfkcjaaDoor.P
open Go.Proofs.YtnfgiamdmfkcjaaDoor.H
open Go.Proofs.YtnfgiamdmfkcjaaDoor.Leaf
open Go.RowKit Go.Proofs.YtnfgiamdmfkcjaaDoorW.PrintWords Go.Proofs.YtnfgiamdmfkcjaaDoorW.PrintLast Go.Proofs.YtnfgiamdmfkcjaaDoorW.PrintMore
attribute [local go_sem] max2_int min2_int max_two min_two max_three min_three max_four min_four   -- for this text's walks alone
set_option linter.unusedVariables false
set_option linter.unusedSimpArgs false
mutual
def mooringlaw20_StripeJoins.j0 : Nat → List (List Int) → Bool → Int → Int → List Int → List Bool → Option (Bool)
  | 0, _, _, _, _, _, _ => none
  | k + 1, x3, x35, x102000, x102001, x102002, x102003 => if x35 = true then ((mooringlaw20_awake.f k).bind fun t107 => (some t107)) else (if 0 ≤ (x3.length : Int) then (if ((x3.length : Int) : Int).toNat ≤ 281474976710656 then (mooringlaw20_StripeJoins.l0 k x3 (List.replicate ((x3.length : Int) : Int).toNat false) 0 (([] : List (List Int))) 0 x102000 x102001 x102002 x102003) else (none)) else (none))
def mooringlaw20_StripeJoins.l0 : Nat → List (List Int) → List Bool → Int → List (List Int) → Int → Int → Int → List Int → List Bool → Option (Bool)
  | 0, _, _, _, _, _, _, _, _, _ => none
  | k + 1, x3, x5, x6, x7, x8, x102000, x102001, x102002, x102003 => if x8 < (x3.length : Int) then (if x8 ≥ (x102003.length : Int) then (if 0 ≤ x8 then (if x8 < (x5.length : Int) then ((some (x5.set (x8 : Int).toNat true : List Bool)).bind fun y114 => (if rdOf false y114 x8 = true then (if x7.length < 5864062014805 then (mooringlaw20_StripeJoins.l0 k x3 y114 (wrap64 (x6 + 1)) (x7 ++ [rd_L1 x3 x8]) (wrap64 (x8 + 1)) x102000 x102001 x102002 x102003) else (none)) else (if x7.length < 5864062014805 then (mooringlaw20_StripeJoins.l0 k x3 y114 x6 (x7 ++ [[]]) (wrap64 (x8 + 1)) x102000 x102001 x102002 x102003) else (none)))) else (none)) else (none)) else (if 0 ≤ x8 then (if x8 < (x102003.length : Int) then (if x8 < (x5.length : Int) then ((some (x5.set (x8 : Int).toNat (rdOf false x102003 x8) : List Bool)).bind fun y124 => (if rdOf false y124 x8 = true then (if x7.length < 5864062014805 then (mooringlaw20_StripeJoins.l0 k x3 y124 (wrap64 (x6 + 1)) (x7 ++ [rd_L1 x3 x8]) (wrap64 (x8 + 1)) x102000 x102001 x102002 x102003) else (none)) else (if x7.length < 5864062014805 then (mooringlaw20_StripeJoins.l0 k x3 y124 x6 (x7 ++ [[]]) (wrap64 (x8 + 1)) x102000 x102001 x102002 x102003) else (none)))) else (none)) else (none)) else (none))) else ((stripe_Join.f k x102000 x102001 (x102002.length : Int) x7 x5).bind fun bt133 => (if x6 < x102000 then (if bt133.2 = 4 then (if (bt133.1.length : Int) = 0 then ((mooringlaw20_awake.f k).bind fun t137 => (some t137)) else (none)) else (none)) else (if bt133.2 = 0 then (if (strOfNums bt133.1).toList = (strOfNums x102002).toList then ((mooringlaw20_awake.f k).bind fun t138 => (some t138)) else (none)) else (none))))
end
def mooringlaw20_StripeJoins.f (k : Nat) (a0_0 : Int) (a0_1 : Int) (l0_2 : List Int) (l0_3 : List Bool) : Option (Bool) := (mooringref20_Split.f k a0_0 a0_1 l0_2).bind fun bt102 => (if bt102.2 = 0 then ((mooringlaw20_light.f a0_0 a0_1).bind fun t106 => (if t106 = true then (mooringlaw20_StripeJoins.j0 k bt102.1 (decide ((l0_2.length : Int) > 1500)) a0_0 a0_1 l0_2 l0_3) else (mooringlaw20_StripeJoins.j0 k bt102.1 true a0_0 a0_1 l0_2 l0_3))) else (mooringlaw20_StripeJoins.j0 k bt102.1 true a0_0 a0_1 l0_2 l0_3))
theorem mooringlaw20_StripeJoins.mono_l : ∀ k, (∀ y0 y1 y2 y3 y4 y5, LeO (mooringlaw20_StripeJoins.j0 k y0 y1 y2 y3 y4 y5) (mooringlaw20_StripeJoins.j0 (k + 1) y0 y1 y2 y3 y4 y5)) ∧ (∀ y0 y1 y2 y3 y4 y5 y6 y7 y8, LeO (mooringlaw20_StripeJoins.l0 k y0 y1 y2 y3 y4 y5 y6 y7 y8) (mooringlaw20_StripeJoins.l0 (k + 1) y0 y1 y2 y3 y4 y5 y6 y7 y8))
  | 0 => ⟨fun _ _ _ _ _ _ r h => by simp [mooringlaw20_StripeJoins.j0] at h, fun _ _ _ _ _ _ _ _ _ r h => by simp [mooringlaw20_StripeJoins.l0] at h⟩
  | k + 1 => by
    obtain ⟨ih0, ih1⟩ := mooringlaw20_StripeJoins.mono_l k
    refine ⟨?_, ?_⟩
    · intro y0 y1 y2 y3 y4 y5
      unfold mooringlaw20_StripeJoins.j0
      repeat' first
      | (with_reducible exact ih0 _ _ _ _ _ _)
      | (with_reducible exact ih1 _ _ _ _ _ _ _ _ _)
      | (with_reducible exact mooringlaw20_awake.mono _)
      | (with_reducible exact mooringref20_Split.mono _ _ _ _)
      | (with_reducible exact stripe_Join.mono _ _ _ _ _ _)
      | (with_reducible exact LeO.refl _)
      | (with_reducible exact LeO.none _)
      | (with_reducible refine LeO.ite ?_ ?_)
      | (with_reducible refine LeO.bind ?_ (fun _ => ?_))
      | exact ih0 _ _ _ _ _ _
      | exact ih1 _ _ _ _ _ _ _ _ _
      | exact mooringlaw20_awake.mono _
      | exact mooringref20_Split.mono _ _ _ _
      | exact stripe_Join.mono _ _ _ _ _ _
      | exact LeO.none _
      | refine LeO.ite ?_ ?_
      | refine LeO.bind ?_ (fun _ => ?_)
    · intro y0 y1 y2 y3 y4 y5 y6 y7 y8
      unfold mooringlaw20_StripeJoins.l0
      repeat' first
      | (with_reducible exact ih0 _ _ _ _ _ _)
      | (with_reducible exact ih1 _ _ _ _ _ _ _ _ _)
      | (with_reducible exact mooringlaw20_awake.mono _)
      | (with_reducible exact mooringref20_Split.mono _ _ _ _)
      | (with_reducible exact stripe_Join.mono _ _ _ _ _ _)
      | (with_reducible exact LeO.refl _)
      | (with_reducible exact LeO.none _)
      | (with_reducible refine LeO.ite ?_ ?_)
      | (with_reducible refine LeO.bind ?_ (fun _ => ?_))
      | exact ih0 _ _ _ _ _ _
      | exact ih1 _ _ _ _ _ _ _ _ _
      | exact mooringlaw20_awake.mono _
      | exact mooringref20_Split.mono _ _ _ _
      | exact stripe_Join.mono _ _ _ _ _ _
      | exact LeO.none _
      | refine LeO.ite ?_ ?_
      | refine LeO.bind ?_ (fun _ => ?_)
theorem mooringlaw20_StripeJoins.mono : ∀ a0 a1 a2 a3 k, LeO (mooringlaw20_StripeJoins.f k a0 a1 a2 a3) (mooringlaw20_StripeJoins.f (k + 1) a0 a1 a2 a3) := by
  intro a0 a1 a2 a3 k
  obtain ⟨ih0, ih1⟩ := mooringlaw20_StripeJoins.mono_l k
  unfold mooringlaw20_StripeJoins.f
  repeat' first
      | (with_reducible exact ih0 _ _ _ _ _ _)
      | (with_reducible exact ih1 _ _ _ _ _ _ _ _ _)
      | (with_reducible exact mooringlaw20_awake.mono _)
      | (with_reducible exact mooringref20_Split.mono _ _ _ _)
      | (with_reducible exact stripe_Join.mono _ _ _ _ _ _)
      | (with_reducible exact LeO.refl _)
      | (with_reducible exact LeO.none _)
      | (with_reducible refine LeO.ite ?_ ?_)
      | (with_reducible refine LeO.bind ?_ (fun _ => ?_))
      | exact ih0 _ _ _ _ _ _
      | exact ih1 _ _ _ _ _ _ _ _ _
      | exact mooringlaw20_awake.mono _
      | exact mooringref20_Split.mono _ _ _ _
      | exact stripe_Join.mono _ _ _ _ _ _
      | exact LeO.none _
      | refine LeO.ite ?_ ?_
      | refine LeO.bind ?_ (fun _ => ?_)
set_option maxHeartbeats 8000000 in
set_option maxRecDepth 100000 in
theorem mooringlaw20_StripeJoins.calls (k : Nat) (a0_0 : Int) (a0_1 : Int) (A0_2 : Option Addr) (c0_2 : Nat) (l0_2 : List Int) (A0_3 : Option Addr) (c0_3 : Nat) (l0_3 : List Bool) (r : Bool) (w : World) (hr0_2 : Kd.C (Kd.int .u8) w A0_2 l0_2.length l0_2) (hc0_2 : l0_2.length ≤ c0_2) (hr0_3 : Kd.C Kd.bool w A0_3 l0_3.length l0_3) (hc0_3 : l0_3.length ≤ c0_3) (h : mooringlaw20_StripeJoins.f k a0_0 a0_1 l0_2 l0_3 = some r) :
    Calls Tryd.prog 3 #[.agg #[.int .i64 a0_0, .int .i64 a0_1, .slice A0_2 l0_2.length c0_2, .slice A0_3 l0_3.length c0_3]] w fun e w' => e = .returned (.bool r) ∧ Below w.heap.size w w' := by
  have hu25 := Tryd.underlying25
  have HR0_2 := Aside0.mk hr0_2
  have HC0_2 := Aside0.mk hc0_2
  clear hr0_2 hc0_2
  have HR0_3 := Aside0.mk hr0_3
  have HC0_3 := Aside0.mk hc0_3
  clear hr0_3 hc0_3
  have HB := Aside0.mk (Below.refl w.heap.size w)
  have H : ((mooringref20_Split.f k a0_0 a0_1 l0_2).bind fun bt102 => (if bt102.2 = 0 then ((mooringlaw20_light.f a0_0 a0_1).bind fun t106 => (if t106 = true then (mooringlaw20_StripeJoins.j0 k bt102.1 (decide ((l0_2.length : Int) > 1500)) a0_0 a0_1 l0_2 l0_3) else (mooringlaw20_StripeJoins.j0 k bt102.1 true a0_0 a0_1 l0_2 l0_3))) else (mooringlaw20_StripeJoins.j0 k bt102.1 true a0_0 a0_1 l0_2 l0_3))) = some r := h
  clear h
  replace H := Option.bind_eq_some_iff.mp H
  obtain ⟨⟨t102, t103⟩, A20, H⟩ := H
  replace H : (if t103 = 0 then ((mooringlaw20_light.f a0_0 a0_1).bind fun t106 => (if t106 = true then (mooringlaw20_StripeJoins.j0 k t102 (decide ((l0_2.length : Int) > 1500)) a0_0 a0_1 l0_2 l0_3) else (mooringlaw20_StripeJoins.j0 k t102 true a0_0 a0_1 l0_2 l0_3))) else (mooringlaw20_StripeJoins.j0 k t102 true a0_0 a0_1 l0_2 l0_3)) = some r := H
  have A2 := Aside0.mk A20
  clear A20
  have HC3 := Aside0.mk H
  clear H
  go_enter Tryd.func3, Tryd.ntmps3
  go_upto_region 2 with (first | ((with_reducible refine gate_dst (N := 1) rfl ?_); (try (refine gate_guard (by rfl) ?_; dsimp only)); refine box_event ?hg (N := 1) ?hd (cs := #[.int .i64 a0_0, .int .i64 a0_1, .slice A0_2 l0_2.length c0_2, .slice A0_3 l0_3.length c0_3]) (t := 25) ?hr ?_; (case hd => rfl); (case hg => rfl); (case hr => first | (go_simp; done) | (go_simp; rfl)); intro gb101 hg w4 hbox hb; have n0_ := Aside0.mk (below_step (by repeat (first | (with_reducible first | exact HB.out | apply below_alloc | apply pw_below_drewN | apply below_drew1) | exact HB.out)) hb); have n1_ := Aside0.mk (hbox); have n2_ := Aside0.mk ((by rw [hg]; exact (below_size (by repeat (first | (with_reducible first | exact HB.out | apply below_alloc | apply pw_below_drewN | apply below_drew1) | exact HB.out))) : w.heap.size ≤ gb101)); have n3_ := Aside0.mk ((by rw [hg]; exact (below_size (by repeat (first | (with_reducible first | exact HB.out | apply below_alloc | apply pw_below_drewN | apply below_drew1) | exact HB.out))) : w.heap.size ≤ gb101)); clear HB; have HB := n0_; have BK101 := n1_; have GW101 := n2_; have GE101 := n3_; clear n0_ n1_ n2_ n3_; clear hb hbox hg; have hcz5_0 : w4.cell? ⟨gb101, 0, none⟩ = some (.int .i64 a0_0) := (blk_cell BK101.out 0).trans rfl; have hcz5_1 : w4.cell? ⟨gb101, 1, none⟩ = some (.int .i64 a0_1) := (blk_cell BK101.out 1).trans rfl; have hcz5_2 : w4.cell? ⟨gb101, 2, none⟩ = some (.slice A0_2 l0_2.length c0_2) := (blk_cell BK101.out 2).trans rfl; have hcz5_3 : w4.cell? ⟨gb101, 3, none⟩ = some (.slice A0_3 l0_3.length c0_3) := (blk_cell BK101.out 3).trans rfl; have hfz5_0 := blk_frozen BK101.out 0; have hfz5_1 := blk_frozen BK101.out 1; have hfz5_2 := blk_frozen BK101.out 2; have hfz5_3 := blk_frozen BK101.out 3) | ((with_reducible refine gate_callee (f := 9) rfl ?_); refine goesL_ (some 17) rfl rfl Tryd.func9 (by kernel_rfl) rfl #[.int .i64 a0_0, .int .i64 a0_1, .slice A0_2 l0_2.length c0_2] rfl (by (try simp only [List.map_toArray, List.map_cons, List.map_nil]); first | done | rfl | (simp only [List.length_drop, List.length_take]; rfl)) ?_; (with_reducible refine (mooringref20_Split.calls k a0_0 a0_1 _ _ l0_2 t102 t103 _ ?side1 ?side2 A2.out).mono ?_); (case side1 => repeat (first | exact (Kd.C_below HR0_2.out HB.out) | (with_reducible refine Kd.C_alloc ?_ _) | (with_reducible refine Kd.C_drewN ?_ _) | (with_reducible refine Kd.C_drew ?_))); (case side2 => exact HC0_2.out); rintro e w6 ⟨v104, rfl, ho0, hb⟩; refine ⟨_, rfl, ?_⟩; have n0_ := Aside0.mk (Kd.N_lower (Kd.N_mono (ok' := fun k_ => k_ ≠ gb101) (Kd.S_N (Kd.S_bound ho0)) (fun k_ hk_ => (Kd.freshB (g := gb101) (o := .cells #[.int .i64 a0_0, .int .i64 a0_1, .slice A0_2 l0_2.length c0_2, .slice A0_3 l0_3.length c0_3] 25 (0, 0)) (by (with_reducible repeat (first | refine blk_drewN ?_ _ | refine blk_drew ?_ | refine blk_alloc ?_ _)); exact BK101.out) k_ hk_.2.1))) (below_size (by repeat (first | (with_reducible first | exact HB.out | apply below_alloc | apply pw_below_drewN | apply below_drew1 | refine below_set ?_ GE101.out) | exact HB.out)))); have n1_ := Aside0.mk (blk_below (g := gb101) (o := .cells #[.int .i64 a0_0, .int .i64 a0_1, .slice A0_2 l0_2.length c0_2, .slice A0_3 l0_3.length c0_3] 25 (0, 0)) (by (with_reducible repeat (first | refine blk_drewN ?_ _ | refine blk_drew ?_ | refine blk_alloc ?_ _)); exact BK101.out) hb); have n2_ := Aside0.mk (below_step (by repeat (first | (with_reducible first | exact HB.out | apply below_alloc | apply pw_below_drewN | apply below_drew1 | refine below_set ?_ GE101.out) | exact HB.out)) hb); clear BK101; clear HB; have HO105 := n0_; have BK101 := n1_; have HB := n2_; clear n0_ n1_ n2_; (try clear hb); (try clear hb2); (try clear hk); (try clear hi); (try clear ho0)))
  (try simp only [Act.put, List.setIfInBounds_toArray, List.set_cons_zero, List.set_cons_succ])
  go_cut [35] (fun v35 wc => ∃ (kq : Nat) (x35_2 : Bool), v35 = .bool x35_2 ∧ Aside0 (mooringlaw20_StripeJoins.j0 kq t102 x35_2 a0_0 a0_1 l0_2 l0_3 = some r) ∧ Aside0 (kq ≤ k) ∧ Aside0 (Kd.N (Kd.slice 5 (Kd.int .u8)) 22 wc w.heap.size (fun k_ => k_ ≠ gb101) v104 t102) ∧ Aside0 (wc.heap[gb101]? = some (.cells #[.int .i64 a0_0, .int .i64 a0_1, (.slice A0_2 l0_2.length c0_2), (.slice A0_3 l0_3.length c0_3)] 25 (0, 0))) ∧ Aside0 (Below w.heap.size w wc))
  case first =>
    have H := HC3.out
    clear HC3
    by_cases c7 : t103 = 0
    · rw [if_pos c7] at H
      have c7b0 : (t103 == 0) = true := beq_iff_eq.mpr c7
      have c7b1 : (t103 != 0) = false := bne_eq_false_iff_eq.mpr c7
      clear c7
      (first | rw [c7b0] | (simp only [i64_w, i32_w]; rw [c7b0]) | skip)
      replace H := Option.bind_eq_some_iff.mp H
      obtain ⟨t106, A80, H⟩ := H
      replace H : (if t106 = true then (mooringlaw20_StripeJoins.j0 k t102 (decide ((l0_2.length : Int) > 1500)) a0_0 a0_1 l0_2 l0_3) else (mooringlaw20_StripeJoins.j0 k t102 true a0_0 a0_1 l0_2 l0_3)) = some r := H
      have A8 := Aside0.mk A80
      clear A80
      by_cases c9 : t106 = true
      · subst c9
        have H1 : (mooringlaw20_StripeJoins.j0 k t102 (decide ((l0_2.length : Int) > 1500)) a0_0 a0_1 l0_2 l0_3) = some r := by rw [if_pos rfl] at H; exact H
        clear H
        have H := H1
        clear H1
        have H' := Aside0.mk H
        clear H
        have hcz10_0 : w6.cell? ⟨gb101, 0, none⟩ = some (.int .i64 a0_0) := (blk_cell BK101.out 0).trans rfl
        have hcz10_1 : w6.cell? ⟨gb101, 1, none⟩ = some (.int .i64 a0_1) := (blk_cell BK101.out 1).trans rfl
        have hcz10_2 : w6.cell? ⟨gb101, 2, none⟩ = some (.slice A0_2 l0_2.length c0_2) := (blk_cell BK101.out 2).trans rfl
        have hcz10_3 : w6.cell? ⟨gb101, 3, none⟩ = some (.slice A0_3 l0_3.length c0_3) := (blk_cell BK101.out 3).trans rfl
        have hfz10_0 := blk_frozen BK101.out 0
        have hfz10_1 := blk_frozen BK101.out 1
        have hfz10_2 := blk_frozen BK101.out 2
        have hfz10_3 := blk_frozen BK101.out 3
        go_wp2_with (first | (go_at_call 10; (with_reducible refine (mooringlaw20_light.calls a0_0 a0_1 true _ A8.out).mono ?_); rintro e w' ⟨rfl, ⟨nd, rfl⟩⟩))
        go_meet
        case rel => exact ⟨_, (decide ((l0_2.length : Int) > 1500)), (by first | rfl | (simp; done) | (simp [*]; done)), H', ⟨by first | omega | exact Nat.le_refl _⟩, ⟨by (with_reducible repeat (first | apply Kd.N_alloc | apply Kd.N_drewN | apply Kd.N_drew)); exact HO105.out⟩, ⟨by (with_reducible repeat (first | refine blk_drewN ?_ _ | refine blk_drew ?_ | refine blk_alloc ?_ _)); exact BK101.out⟩, ⟨by repeat (first | (with_reducible first | exact HB.out | apply below_alloc | apply pw_below_drewN | apply below_drew1 | refine below_set ?_ GE101.out) | exact HB.out)⟩⟩
      · replace c9 := Bool.eq_false_iff.mpr c9
        subst c9
        have H1 : (mooringlaw20_StripeJoins.j0 k t102 true a0_0 a0_1 l0_2 l0_3) = some r := by rw [if_neg (show ¬ (false = true) by decide)] at H; exact H
        clear H
        have H := H1
        clear H1
        have H' := Aside0.mk H
        clear H
        have hcz11_0 : w6.cell? ⟨gb101, 0, none⟩ = some (.int .i64 a0_0) := (blk_cell BK101.out 0).trans rfl
        have hcz11_1 : w6.cell? ⟨gb101, 1, none⟩ = some (.int .i64 a0_1) := (blk_cell BK101.out 1).trans rfl
        have hcz11_2 : w6.cell? ⟨gb101, 2, none⟩ = some (.slice A0_2 l0_2.length c0_2) := (blk_cell BK101.out 2).trans rfl
        have hcz11_3 : w6.cell? ⟨gb101, 3, none⟩ = some (.slice A0_3 l0_3.length c0_3) := (blk_cell BK101.out 3).trans rfl
        have hfz11_0 := blk_frozen BK101.out 0
        have hfz11_1 := blk_frozen BK101.out 1
        have hfz11_2 := blk_frozen BK101.out 2
        have hfz11_3 := blk_frozen BK101.out 3
        go_wp2_with (first | (go_at_call 10; (with_reducible refine (mooringlaw20_light.calls a0_0 a0_1 false _ A8.out).mono ?_); rintro e w' ⟨rfl, ⟨nd, rfl⟩⟩))
        go_meet
        case rel => exact ⟨_, (true), (by first | rfl | (simp; done) | (simp [*]; done)), H', ⟨by first | omega | exact Nat.le_refl _⟩, ⟨by (with_reducible repeat (first | apply Kd.N_alloc | apply Kd.N_drewN | apply Kd.N_drew)); exact HO105.out⟩, ⟨by (with_reducible repeat (first | refine blk_drewN ?_ _ | refine blk_drew ?_ | refine blk_alloc ?_ _)); exact BK101.out⟩, ⟨by repeat (first | (with_reducible first | exact HB.out | apply below_alloc | apply pw_below_drewN | apply below_drew1 | refine below_set ?_ GE101.out) | exact HB.out)⟩⟩
    · rw [if_neg c7] at H
      have c7b0 : (t103 == 0) = false := beq_eq_false_iff_ne.mpr c7
      have c7b1 : (t103 != 0) = true := bne_iff_ne.mpr c7
      (first | rw [c7b0] | (simp only [i64_w, i32_w]; rw [c7b0]) | skip)
      have H' := Aside0.mk H
      clear H
      go_wp2
      go_meet
      case rel => exact ⟨_, (true), (by first | rfl | (simp; done) | (simp [*]; done)), H', ⟨by first | omega | exact Nat.le_refl _⟩, ⟨by (with_reducible repeat (first | apply Kd.N_alloc | apply Kd.N_drewN | apply Kd.N_drew)); exact HO105.out⟩, ⟨by (with_reducible repeat (first | refine blk_drewN ?_ _ | refine blk_drew ?_ | refine blk_alloc ?_ _)); exact BK101.out⟩, ⟨by repeat (first | (with_reducible first | exact HB.out | apply below_alloc | apply pw_below_drewN | apply below_drew1 | refine below_set ?_ GE101.out) | exact HB.out)⟩⟩
  case rest =>
    clear HC3
    try clear p2
    try clear c3
    try clear c7
    try clear c7b0
    try clear c7b1
    try clear c9
    try clear hcz10_0
    try clear hcz10_1
    try clear hcz10_2
    try clear hcz10_3
    try clear hcz11_0
    try clear hcz11_1
    try clear hcz11_2
    try clear hcz11_3
    try clear hcz5_0
    try clear hcz5_1
    try clear hcz5_2
    try clear hcz5_3
    try clear hfz10_0
    try clear hfz10_1
    try clear hfz10_2
    try clear hfz10_3
    try clear hfz11_0
    try clear hfz11_1
    try clear hfz11_2
    try clear hfz11_3
    try clear hfz5_0
    try clear hfz5_1
    try clear hfz5_2
    try clear hfz5_3
    obtain ⟨kq, x35_2, rfl, HA, HJ2, HO_3, BK101, HB⟩ := hcut
    cases kq with
    | zero => exact absurd HA.out (by simp [mooringlaw20_StripeJoins.j0])
    | succ kj2 =>
      have H := HA.out
      clear HA
      simp only [mooringlaw20_StripeJoins.j0] at H
      by_cases c12 : x35_2 = true
      · subst c12
        have H1 : ((mooringlaw20_awake.f kj2).bind fun t107 => (some t107)) = some r := by rw [if_pos rfl] at H; exact H
        clear H
        have H := H1
        clear H1
        replace H := Option.bind_eq_some_iff.mp H
        obtain ⟨t107, A130, H⟩ := H
        replace H : (some t107) = some r := H
        have A13 := Aside0.mk A130
        clear A130
        obtain rfl := Option.some.inj H
        go_wp2_with (first | ((with_reducible refine gate_callee (f := 11) rfl ?_); refine goesL_ (some 36) rfl rfl Tryd.func11 (by kernel_rfl) rfl #[] rfl (by (try simp only [List.map_toArray, List.map_cons, List.map_nil]); first | done | rfl | (simp only [List.length_drop, List.length_take]; rfl)) ?_; (with_reducible refine (mooringlaw20_awake.calls kj2  t107 _ A13.out).mono ?_); rintro e w14 ⟨rfl, hb⟩; refine ⟨_, rfl, ?_⟩; have n0_ := Aside0.mk (Kd.N_below (by (with_reducible repeat (first | apply Kd.N_alloc | apply Kd.N_drewN | apply Kd.N_drew)); exact HO_3.out) hb); have n1_ := Aside0.mk (blk_below (g := gb101) (o := .cells #[.int .i64 a0_0, .int .i64 a0_1, .slice A0_2 l0_2.length c0_2, .slice A0_3 l0_3.length c0_3] 25 (0, 0)) (by (with_reducible repeat (first | refine blk_drewN ?_ _ | refine blk_drew ?_ | refine blk_alloc ?_ _)); exact BK101.out) hb); have n2_ := Aside0.mk (below_step (by repeat (first | (with_reducible first | exact HB.out | apply below_alloc | apply pw_below_drewN | apply below_drew1 | refine below_set ?_ GE101.out) | exact HB.out)) hb); clear HO_3; clear BK101; clear HB; have HO_3 := n0_; have BK101 := n1_; have HB := n2_; clear n0_ n1_ n2_; (try clear hb); (try clear hb2); (try clear hk); (try clear hi)))
        go_ret
        exact ⟨by first | rfl | (simp [errW_none, errW_some] <;> rfl) | (simp [*, errW_none, errW_some] <;> rfl), by repeat (first | (with_reducible first | exact HB.out | apply below_alloc | apply pw_below_drewN | apply below_drew1 | refine below_set ?_ GE101.out) | exact HB.out)⟩
      · replace c12 := Bool.eq_false_iff.mpr c12
        subst c12
        have H1 : (if 0 ≤ (t102.length : Int) then (if ((t102.length : Int) : Int).toNat ≤ 281474976710656 then (mooringlaw20_StripeJoins.l0 kj2 t102 (List.replicate ((t102.length : Int) : Int).toNat false) 0 (([] : List (List Int))) 0 a0_0 a0_1 l0_2 l0_3) else (none)) else (none)) = some r := by rw [if_neg (show ¬ (false = true) by decide)] at H; exact H
        clear H
        have H := H1
        clear H1
        by_cases c15 : 0 ≤ (t102.length : Int)
        · rw [if_pos c15] at H
          have c15b0 := eq_true c15
          have c15b1 : decide (0 ≤ (t102.length : Int)) = true := decide_eq_true c15
          clear c15
          by_cases c16 : ((t102.length : Int) : Int).toNat ≤ 281474976710656
          · rw [if_pos c16] at H
            have c16b0 := eq_true c16
            have c16b1 : decide (((t102.length : Int) : Int).toNat ≤ 281474976710656) = true := decide_eq_true c16
            clear c16
            obtain ⟨y108, hy108⟩ : ∃ y_ : List Bool, y_ = (List.replicate ((t102.length : Int) : Int).toNat false) := ⟨_, rfl⟩
            replace H : (mooringlaw20_StripeJoins.l0 kj2 t102 y108 0 (([] : List (List Int))) 0 a0_0 a0_1 l0_2 l0_3) = some r := by first | (rw [hy108]; with_reducible exact H) | (have H2_ := (Option.bind_some _ _).symm.trans H; rw [hy108]; with_reducible exact H2_) | (have H2_ := (Option.bind_some _ _).symm.trans H; with_reducible exact H2_) | with_reducible exact H | (rw [hy108]; exact H) | exact H
            have Ny108 := Aside0.mk hy108
            clear hy108
            obtain ⟨y111, hy111⟩ : ∃ y_ : List (List Int), y_ = (([] : List (List Int))) := ⟨_, rfl⟩
            replace H : (mooringlaw20_StripeJoins.l0 kj2 t102 y108 0 y111 0 a0_0 a0_1 l0_2 l0_3) = some r := by first | (rw [hy111]; with_reducible exact H) | (have H2_ := (Option.bind_some _ _).symm.trans H; rw [hy111]; with_reducible exact H2_) | (have H2_ := (Option.bind_some _ _).symm.trans H; with_reducible exact H2_) | with_reducible exact H | (rw [hy111]; exact H) | exact H
            have Ny111 := Aside0.mk hy111
            clear hy111
            have H' := Aside0.mk H
            clear H
            obtain ⟨Ao17, co17, eo17⟩ := Kd.N_slice HO_3.out
            subst eo17
            go_wp2_with (first | ((with_reducible refine gate_dst (N := 39) rfl ?_); (try (refine gate_guard (by rfl) ?_; dsimp only)); refine Kd.R_make Kd.bool _ 4 rfl (N := 39) rfl 23 _ _ rfl (t102.length : Int) rfl rfl Tryd.underlying23 (.bool false) 1 info4 rfl (by decide) (by omega) false (ok := fun _ => True) (okp := fun _ => True) rfl (fun _ hk => hk) trivial (of_decide_eq_true (by first | (with_reducible assumption) | assumption)) (Nat.le_trans (Nat.mul_le_mul_right _ (of_decide_eq_true (by first | (with_reducible assumption) | assumption) : (t102.length : Int).toNat ≤ 281474976710656)) (by omega)) (Below.refl _ _) (Nat.le_refl _) ?_; intro v109 w18 ho19 hb hg_ hnew_; clear hg_ hnew_; (first | rw [← Ny108.out] at ho19 | (simp only [Int.reduceToNat] at ho19; rw [← Ny108.out] at ho19)); have n0_ := Aside0.mk (Kd.N_elder' (by (with_reducible repeat (first | apply Kd.N_alloc | apply Kd.N_drewN | apply Kd.N_drew)); exact HO_3.out) (Kd.R_base ho19) hb); have n1_ := Aside0.mk (Kd.R_lower ho19 (below_size (by repeat (first | (with_reducible first | exact HB.out | apply below_alloc | apply pw_below_drewN | apply below_drew1 | refine below_set ?_ GE101.out) | exact HB.out)))); have n2_ := Aside0.mk (blk_below (g := gb101) (o := .cells #[.int .i64 a0_0, .int .i64 a0_1, .slice A0_2 l0_2.length c0_2, .slice A0_3 l0_3.length c0_3] 25 (0, 0)) (by (with_reducible repeat (first | refine blk_drewN ?_ _ | refine blk_drew ?_ | refine blk_alloc ?_ _)); exact BK101.out) hb); have n3_ := Aside0.mk (below_step (by repeat (first | (with_reducible first | exact HB.out | apply below_alloc | apply pw_below_drewN | apply below_drew1 | refine below_set ?_ GE101.out) | exact HB.out)) hb); clear HO_3; clear BK101; clear HB; have HO_3 := n0_; have HO110 := n1_; have BK101 := n2_; have HB := n3_; clear n0_ n1_ n2_ n3_; clear hb ho19) | ((with_reducible refine gate_dst (N := 40) rfl ?_); (try (refine gate_guard (by rfl) ?_; dsimp only)); refine Kd.N_lit (Kd.slice 5 (Kd.int .u8)) _ 22 ?hg (N' := 40) ?hd (xs := ([] : List (List Int))) (inner := []) (ok := (fun k_ => some k_ ≠ (.slice Ao17 t102.length co17 : Value).ownBlock ∧ some k_ ≠ (v109 : Value).ownBlock ∧ k_ ≠ gb101)) (okp := (fun k_ => some k_ ≠ (.slice Ao17 t102.length co17 : Value).ownBlock ∧ some k_ ≠ (v109 : Value).ownBlock ∧ k_ ≠ gb101)) ?hr ?hp (fun _ hk => hk) ((show ∀ k_, w18.heap.size ≤ k_ → (fun k_ => some k_ ≠ (.slice Ao17 t102.length co17 : Value).ownBlock ∧ some k_ ≠ (v109 : Value).ownBlock ∧ k_ ≠ gb101) k_ from fun k_ hk => ⟨Kd.fresh' (Kd.N_lt (by (with_reducible repeat (first | apply Kd.N_alloc | apply Kd.N_drewN | apply Kd.N_drew)); exact HO_3.out)) k_ hk, Kd.fresh' (Kd.R_lt (by (with_reducible repeat (first | apply Kd.R_alloc | apply Kd.R_drewN | apply Kd.R_drew)); exact HO110.out)) k_ hk, Kd.freshB (g := gb101) (o := .cells #[.int .i64 a0_0, .int .i64 a0_1, .slice A0_2 l0_2.length c0_2, .slice A0_3 l0_3.length c0_3] 25 (0, 0)) (by (with_reducible repeat (first | refine blk_drewN ?_ _ | refine blk_drew ?_ | refine blk_alloc ?_ _)); exact BK101.out) k_ hk⟩) _ (Nat.le_refl _)) (Below.refl _ _) (Nat.le_refl _) (by simp) ?_; (case hd => rfl); (case hg => rfl); (case hr => first | (go_simp; done) | (go_simp; rfl)); (case hp => exact (Reps.none _ _)); intro v112 w20 ho21 hb hg_ hnew_; clear hg_ hnew_; (first | rw [← Ny111.out] at ho21 | (simp only [Int.reduceToNat] at ho21; rw [← Ny111.out] at ho21)); have n0_ := Aside0.mk (Kd.N_elder' (by (with_reducible repeat (first | apply Kd.N_alloc | apply Kd.N_drewN | apply Kd.N_drew)); exact HO_3.out) (by first | exact Kd.N_base ho21 | exact Kd.S_base ho21) hb); have n1_ := Aside0.mk (Kd.R_below (by (with_reducible repeat (first | apply Kd.R_alloc | apply Kd.R_drewN | apply Kd.R_drew)); exact HO110.out) hb); have n2_ := Aside0.mk (Kd.N_lower ho21 (below_size (by repeat (first | (with_reducible first | exact HB.out | apply below_alloc | apply pw_below_drewN | apply below_drew1 | refine below_set ?_ GE101.out) | exact HB.out)))); have n3_ := Aside0.mk (blk_below (g := gb101) (o := .cells #[.int .i64 a0_0, .int .i64 a0_1, .slice A0_2 l0_2.length c0_2, .slice A0_3 l0_3.length c0_3] 25 (0, 0)) (by (with_reducible repeat (first | refine blk_drewN ?_ _ | refine blk_drew ?_ | refine blk_alloc ?_ _)); exact BK101.out) hb); have n4_ := Aside0.mk (below_step (by repeat (first | (with_reducible first | exact HB.out | apply below_alloc | apply pw_below_drewN | apply below_drew1 | refine below_set ?_ GE101.out) | exact HB.out)) hb); clear HO_3; clear HO110; clear BK101; clear HB; have HO_3 := n0_; have HO110 := n1_; have HO113 := n2_; have BK101 := n3_; have HB := n4_; clear n0_ n1_ n2_ n3_ n4_; clear hb ho21))
            go_loopg [6, 7, 8] kj2 (fun kq v6 v7 v8 w' => ∃ (x5_2 : List Bool) (x6_2 : Int) (x7_2 : List (List Int)) (x8_2 : Int), v6 = .int .i64 x6_2 ∧ v8 = .int .i64 x8_2 ∧ Aside0 (mooringlaw20_StripeJoins.l0 kq t102 x5_2 x6_2 x7_2 x8_2 a0_0 a0_1 l0_2 l0_3 = some r) ∧ Aside0 (kq ≤ kj2) ∧ Aside0 (Kd.N (Kd.slice 5 (Kd.int .u8)) 22 w' w.heap.size (fun k_ => some k_ ≠ (v109 : Value).ownBlock ∧ some k_ ≠ (v7 : Value).ownBlock ∧ k_ ≠ gb101) (.slice Ao17 t102.length co17) t102) ∧ Aside0 (Kd.R Kd.bool 4 w' w.heap.size (fun _ => True) v109 x5_2) ∧ Aside0 (Kd.N (Kd.slice 5 (Kd.int .u8)) 22 w' w.heap.size (fun k_ => some k_ ≠ ((.slice Ao17 t102.length co17) : Value).ownBlock ∧ some k_ ≠ (v109 : Value).ownBlock ∧ k_ ≠ gb101) v7 x7_2) ∧ Aside0 (w'.heap[gb101]? = some (.cells #[.int .i64 a0_0, .int .i64 a0_1, (.slice A0_2 l0_2.length c0_2), (.slice A0_3 l0_3.length c0_3)] 25 (0, 0))) ∧ Aside0 (Below w.heap.size w w'))
            case atStart => exact ⟨(y108), (0), (y111), (0), (by first | rfl | (simp; done) | (simp [*]; done)), (by first | rfl | (simp; done) | (simp [*]; done)), H', ⟨Nat.le_refl _⟩, ⟨by (with_reducible repeat (first | apply Kd.N_alloc | apply Kd.N_drewN | apply Kd.N_drew)); exact Kd.N_mono HO_3.out (fun _ hk => ⟨hk.1.2, ⟨hk.2, hk.1.1⟩⟩)⟩, ⟨by (with_reducible repeat (first | apply Kd.R_alloc | apply Kd.R_drewN | apply Kd.R_drew)); exact HO110.out⟩, ⟨by (with_reducible repeat (first | apply Kd.N_alloc | apply Kd.N_drewN | apply Kd.N_drew)); exact HO113.out⟩, ⟨by (with_reducible repeat (first | refine blk_drewN ?_ _ | refine blk_drew ?_ | refine blk_alloc ?_ _)); exact BK101.out⟩, ⟨by repeat (first | (with_reducible first | exact HB.out | apply below_alloc | apply pw_below_drewN | apply below_drew1 | refine below_set ?_ GE101.out) | exact HB.out)⟩⟩
            case round =>
              clear H'
              try clear c1
              try clear p2
              try clear c3
              try clear c7
              try clear c7b0
              try clear c7b1
              try clear c9
              try clear c11
              try clear c12
              try clear c15
              try clear c15b0
              try clear c15b1
              try clear c16
              try clear c16b0
              try clear c16b1
              try clear hcz10_0
              try clear hcz10_1
              try clear hcz10_2
              try clear hcz10_3
              try clear hcz11_0
              try clear hcz11_1
              try clear hcz11_2
              try clear hcz11_3
              try clear hcz5_0
              try clear hcz5_1
              try clear hcz5_2
              try clear hcz5_3
              try clear hfz10_0
              try clear hfz10_1
              try clear hfz10_2
              try clear hfz10_3
              try clear hfz11_0
              try clear hfz11_1
              try clear hfz11_2
              try clear hfz11_3
              try clear hfz5_0
              try clear hfz5_1
              try clear hfz5_2
              try clear hfz5_3
              try clear p2
              obtain ⟨x5_2, x6_2, x7_2, x8_2, rfl, rfl, HA, HK2, HO_3, HO_5, HO_7, BK101, HB⟩ := hrel
              cases gk with
              | zero => exact absurd HA.out (by simp [mooringlaw20_StripeJoins.l0])
              | succ k2 =>
                have H := HA.out
                clear HA
                simp only [mooringlaw20_StripeJoins.l0] at H
                by_cases c22 : x8_2 < (t102.length : Int)
                · rw [if_pos c22] at H
                  have c22b0 : decide (x8_2 < (t102.length : Int)) = true := decide_eq_true c22
                  clear c22
                  by_cases c23 : x8_2 ≥ (l0_3.length : Int)
                  · rw [if_pos c23] at H
                    have c23b0 : decide ((l0_3.length : Int) ≤ x8_2) = true := decide_eq_true c23
                    clear c23
                    by_cases c24 : 0 ≤ x8_2
                    · rw [if_pos c24] at H
                      have c24b0 : decide (0 ≤ x8_2) = true := decide_eq_true c24
                      clear c24
                      by_cases c25 : x8_2 < (x5_2.length : Int)
                      · rw [if_pos c25] at H
                        have c25b0 : decide (x8_2 < (x5_2.length : Int)) = true := decide_eq_true c25
                        clear c25
                        obtain ⟨y114, hy114⟩ : ∃ y_ : List Bool, y_ = (x5_2.set (x8_2 : Int).toNat true) := ⟨_, rfl⟩
                        replace H : (if rdOf false y114 x8_2 = true then (if x7_2.length < 5864062014805 then (mooringlaw20_StripeJoins.l0 k2 t102 y114 (wrap64 (x6_2 + 1)) (x7_2 ++ [rd_L1 t102 x8_2]) (wrap64 (x8_2 + 1)) a0_0 a0_1 l0_2 l0_3) else (none)) else (if x7_2.length < 5864062014805 then (mooringlaw20_StripeJoins.l0 k2 t102 y114 x6_2 (x7_2 ++ [[]]) (wrap64 (x8_2 + 1)) a0_0 a0_1 l0_2 l0_3) else (none))) = some r := by first | (rw [hy114]; with_reducible exact H) | (have H2_ := (Option.bind_some _ _).symm.trans H; rw [hy114]; with_reducible exact H2_) | (have H2_ := (Option.bind_some _ _).symm.trans H; with_reducible exact H2_) | with_reducible exact H | (rw [hy114]; exact H) | exact H
                        have Ny114 := Aside0.mk hy114
                        clear hy114
                        obtain ⟨bq27, hbq27⟩ : ∃ b_ : Bool, b_ = (rdOf false y114 x8_2) := ⟨_, rfl⟩
                        replace H : (if bq27 = true then (if x7_2.length < 5864062014805 then (mooringlaw20_StripeJoins.l0 k2 t102 y114 (wrap64 (x6_2 + 1)) (x7_2 ++ [rd_L1 t102 x8_2]) (wrap64 (x8_2 + 1)) a0_0 a0_1 l0_2 l0_3) else (none)) else (if x7_2.length < 5864062014805 then (mooringlaw20_StripeJoins.l0 k2 t102 y114 x6_2 (x7_2 ++ [[]]) (wrap64 (x8_2 + 1)) a0_0 a0_1 l0_2 l0_3) else (none))) = some r := by rw [← hbq27] at H; exact H
                        have Nbq27 := Aside0.mk hbq27
                        clear hbq27
                        by_cases c28 : bq27 = true
                        · subst c28
                          have H1 : (if x7_2.length < 5864062014805 then (mooringlaw20_StripeJoins.l0 k2 t102 y114 (wrap64 (x6_2 + 1)) (x7_2 ++ [rd_L1 t102 x8_2]) (wrap64 (x8_2 + 1)) a0_0 a0_1 l0_2 l0_3) else (none)) = some r := by rw [if_pos rfl] at H; exact H
                          clear H
                          have H := H1
                          clear H1
                          by_cases c29 : x7_2.length < 5864062014805
                          · rw [if_pos c29] at H
                            have LMc29 := Aside0.mk c29
                            clear c29
                            obtain ⟨y117, hy117⟩ : ∃ y_ : List (List Int), y_ = (x7_2 ++ [rd_L1 t102 x8_2]) := ⟨_, rfl⟩
                            replace H : (mooringlaw20_StripeJoins.l0 k2 t102 y114 (wrap64 (x6_2 + 1)) y117 (wrap64 (x8_2 + 1)) a0_0 a0_1 l0_2 l0_3) = some r := by first | (rw [hy117]; with_reducible exact H) | (have H2_ := (Option.bind_some _ _).symm.trans H; rw [hy117]; with_reducible exact H2_) | (have H2_ := (Option.bind_some _ _).symm.trans H; with_reducible exact H2_) | with_reducible exact H | (rw [hy117]; exact H) | exact H
                            have Ny117 := Aside0.mk hy117
                            clear hy117
                            have H' := Aside0.mk H
                            clear H
                            have hcz30_0 : wr.cell? ⟨gb101, 0, none⟩ = some (.int .i64 a0_0) := (blk_cell BK101.out 0).trans rfl
                            have hcz30_1 : wr.cell? ⟨gb101, 1, none⟩ = some (.int .i64 a0_1) := (blk_cell BK101.out 1).trans rfl
                            have hcz30_2 : wr.cell? ⟨gb101, 2, none⟩ = some (.slice A0_2 l0_2.length c0_2) := (blk_cell BK101.out 2).trans rfl
                            have hcz30_3 : wr.cell? ⟨gb101, 3, none⟩ = some (.slice A0_3 l0_3.length c0_3) := (blk_cell BK101.out 3).trans rfl
                            have hfz30_0 := blk_frozen BK101.out 0
                            have hfz30_1 := blk_frozen BK101.out 1
                            have hfz30_2 := blk_frozen BK101.out 2
                            have hfz30_3 := blk_frozen BK101.out 3
                            have p26 : 0 ≤ (x8_2 : Int) := of_decide_eq_true (by first | (with_reducible assumption) | assumption)
                            have q26 : (x8_2 : Int) < ((x5_2.length : Int) : Int) := of_decide_eq_true (by first | (with_reducible assumption) | assumption)
                            obtain ⟨go26, co26, eo26, gb26, gl26, cl26, HG26⟩ := Kd.R_form HO_5.out (by omega)
                            (first | cases eo26 | (injection eo26 with ea_ en_ ec_; (first | subst ea_ | (injection ea_ with ea_; subst ea_)); subst ec_; clear en_))
                            have GB26 := Aside0.mk gb26
                            have GG26 := Aside0.mk HG26
                            clear gb26 gl26 HG26
                            obtain ⟨hx26_0, hf26_0⟩ := Kd.R_celln false HO_5.out (x8_2 : Int) p26 q26
                            replace p26 := eq_true p26
                            replace q26 := eq_true q26
                            have HP31 := Kd.R_putg HO_5.out (x8_2 : Int) true
                            go_wp2_with (first | ((with_reducible refine gate_store (t := 4) (p := 61) rfl ?_); refine store_event (t := 4) (p := 61) (v := ?vo_w32) (w1 := (wr.setCell ⟨go26, (x8_2 : Int).toNat, none⟩ (.bool true))) ?hg ?ho ?hn ?hr ?_; (case ho => rfl); (case hg => rfl); (case hn => rfl); (case hr => first | (go_simp; done) | (go_simp; rfl)); intro w32 hw; have hg : wr.grownBy w32 (some go26) := (by rw [hw]; exact HP31.2); have hp_ : Kd.R Kd.bool 4 w32 w.heap.size (fun _ => True) (.slice (some ⟨go26, 0, none⟩) x5_2.length co26) y114 := (by rw [hw, Ny114.out]; exact HP31.1); clear HP31; have n0_ := Aside0.mk (Kd.N_afterv (v := (.slice (some ⟨go26, 0, none⟩) x5_2.length co26)) (v1 := (.slice (some ⟨go26, 0, none⟩) x5_2.length co26)) (ok := (fun k_ => some k_ ≠ (u7 : Value).ownBlock ∧ k_ ≠ gb101)) (by (with_reducible repeat (first | apply Kd.N_alloc | apply Kd.N_drewN | apply Kd.N_drew)); exact Kd.N_mono HO_3.out (fun _ hk => ⟨⟨hk.2.1, hk.2.2⟩, hk.1⟩)) hg (.inl rfl)); have n1_ := Aside0.mk (hp_); have n2_ := Aside0.mk (Kd.N_afterv (v := (.slice (some ⟨go26, 0, none⟩) x5_2.length co26)) (v1 := (.slice (some ⟨go26, 0, none⟩) x5_2.length co26)) (ok := (fun k_ => some k_ ≠ (.slice Ao17 t102.length co17 : Value).ownBlock ∧ k_ ≠ gb101)) (by (with_reducible repeat (first | apply Kd.N_alloc | apply Kd.N_drewN | apply Kd.N_drew)); exact Kd.N_mono HO_7.out (fun _ hk => ⟨⟨hk.1, hk.2.2⟩, hk.2.1⟩)) hg (.inl rfl)); have n3_ := Aside0.mk (blk_grown (g := gb101) (o := .cells #[.int .i64 a0_0, .int .i64 a0_1, .slice A0_2 l0_2.length c0_2, .slice A0_3 l0_3.length c0_3] 25 (0, 0)) (by (with_reducible repeat (first | refine blk_drewN ?_ _ | refine blk_drew ?_ | refine blk_alloc ?_ _)); exact BK101.out) hg (Kd.R_ne HO_5.out BK101.out (by decide))); have n4_ := Aside0.mk ((by rw [hw]; exact below_set (HB.out) GB26.out : Below w.heap.size w w32)); clear HO_3; clear HO_5; clear HO_7; clear BK101; clear HB; have HO_3 := n0_; have HO_5 := n1_; have HO_7 := n2_; have BK101 := n3_; have HB := n4_; clear n0_ n1_ n2_ n3_ n4_; clear hg hw hp_; have p115 : 0 ≤ (x8_2 : Int) := of_decide_eq_true (by first | (with_reducible assumption) | assumption); have q115 : x8_2 < (y114.length : Int) := (by have h_ : (x8_2 : Int) < ((x5_2.length : Int) : Int) := of_decide_eq_true (by first | (with_reducible assumption) | assumption); first | (have e_ := (Kd.R_reads' HO_5.out).1; omega) | simpa only [Ny114.out, List.length_set] using h_); have ql115 : ((x8_2 : Int) < ((x5_2.length : Int) : Int)) = True := eq_true (of_decide_eq_true (by first | (with_reducible assumption) | assumption)); obtain ⟨ad115, e115, hx115_0⟩ := Kd.at_bool (Kd.R_reads' HO_5.out).2.2 x8_2 p115 q115; (try rw [← Nbq27.out] at hx115_0); obtain rfl : (⟨go26, 0, none⟩ : Addr) = ad115 := (by injection e115); (first | simp only [add_plain] at hx115_0 | simp only [add_at] at hx115_0 | simp only [Addr.add, Nat.zero_add] at hx115_0 | skip); replace p115 := eq_true p115; replace q115 := eq_true q115; have p116 : 0 ≤ (x8_2 : Int) := of_decide_eq_true (by first | (with_reducible assumption) | assumption); have q116 : x8_2 < (t102.length : Int) := of_decide_eq_true (by first | (with_reducible assumption) | assumption); obtain ⟨ad116, A116_0, c116_0, e116, hx116_0, hl116_0, hi116_0⟩ := at_L1 (Kd.N_reads' HO_3.out).2.2 x8_2 p116 q116; cases e116; obtain ⟨ce116, hce116, hMe116, hcc116⟩ := Kd.N_get HO_3.out [] x8_2 p116 (by first | exact q116 | exact of_decide_eq_true (by first | (with_reducible assumption) | assumption) | (have e_ := (Kd.N_reads' HO_3.out).1; omega)); obtain ⟨ua116_0, uc116_0, rfl, ul116_0, ge116_0⟩ := Kd.FK_slice_open hMe116; have hv116_0 := hcc116 0 _ rfl; rw [Nat.add_zero, show ((Kd.slice 5 (Kd.int .u8))).sz = 1 from rfl, Nat.mul_one] at hv116_0; replace hv116_0 := Option.some.inj (hv116_0.symm.trans hx116_0); injection hv116_0 with hva_ hvn_ hvc_; rw [hva_] at ge116_0; rw [hvc_] at ul116_0; have HL116_0 := Aside0.mk (show Kd.V (Kd.int .u8) 5 _ w.heap.size _ _ (rd_L1 t102 x8_2) from Kd.V_mk ul116_0 ge116_0); clear hva_ hvn_ hvc_ ge116_0 ul116_0; clear hcc116 hce116; have HR116_0 := Aside0.mk hi116_0; have HC116_0 := Aside0.mk hl116_0; clear hi116_0 hl116_0; replace p116 := eq_true p116; replace q116 := eq_true q116) | ((with_reducible refine gate_builtin (b := .append) (xs := #[.tmp 68, .tmp 73]) rfl ?_); (try (refine gate_guard (by rfl) ?_; dsimp only)); at_builtin; refine Kd.N_append (Kd.slice 5 (Kd.int .u8)) (w0 := w) w.heap.size rfl (.tmp 68) (.tmp 73) 26 22 (.slice none 0 0) 24 rfl Tryd.underlying26 info22 rfl (by decide) (by omega) u7 x7_2 (rd_L1 t102 x8_2) [.slice A116_0 (rd_L1 t102 x8_2).length c116_0] (fun k_ => some k_ ≠ (.slice (some ad116) t102.length co17 : Value).ownBlock ∧ some k_ ≠ (.slice (some ⟨go26, 0, none⟩) x5_2.length co26 : Value).ownBlock ∧ k_ ≠ gb101) (fun k_ => ((fun k_ => some k_ ≠ (.slice (some ad116) t102.length co17 : Value).ownBlock ∧ some k_ ≠ (.slice (some ⟨go26, 0, none⟩) x5_2.length co26 : Value).ownBlock ∧ k_ ≠ gb101)) k_ ∧ some k_ ≠ (u7 : Value).ownBlock) rfl rfl ?aP (fun _ hk => hk) ?aF ?aO ?aB ?aS ?aL ?_; (case aP => exact (Kd.FK_slice_mk (Kd.V_reads' (Kd.V_mono (ok' := (fun k_ => ((fun k_ => some k_ ≠ (.slice (some ad116) t102.length co17 : Value).ownBlock ∧ some k_ ≠ (.slice (some ⟨go26, 0, none⟩) x5_2.length co26 : Value).ownBlock ∧ k_ ≠ gb101)) k_ ∧ some k_ ≠ (u7 : Value).ownBlock)) (HL116_0.out) (fun k_ hk => ⟨⟨hk.2, ⟨hk.1.2, hk.1.1.2⟩⟩, hk.1.1.1⟩))).2.1 (Kd.V_F (Kd.V_mono (ok' := (fun k_ => ((fun k_ => some k_ ≠ (.slice (some ad116) t102.length co17 : Value).ownBlock ∧ some k_ ≠ (.slice (some ⟨go26, 0, none⟩) x5_2.length co26 : Value).ownBlock ∧ k_ ≠ gb101)) k_ ∧ some k_ ≠ (u7 : Value).ownBlock)) (HL116_0.out) (fun k_ hk => ⟨⟨hk.2, ⟨hk.1.2, hk.1.1.2⟩⟩, hk.1.1.1⟩))))); (case aB => exact (by repeat (first | (with_reducible first | exact HB.out | apply below_alloc | apply pw_below_drewN | apply below_drew1 | refine below_set ?_ GE101.out) | exact HB.out))); (case aF => exact (fun k_ hk => ⟨Kd.fresh' (Kd.N_lt (by (with_reducible repeat (first | apply Kd.N_alloc | apply Kd.N_drewN | apply Kd.N_drew)); exact HO_3.out)) k_ hk, Kd.fresh' (Kd.R_lt (by (with_reducible repeat (first | apply Kd.R_alloc | apply Kd.R_drewN | apply Kd.R_drew)); exact HO_5.out)) k_ hk, Kd.freshB (g := gb101) (o := .cells #[.int .i64 a0_0, .int .i64 a0_1, .slice A0_2 l0_2.length c0_2, .slice A0_3 l0_3.length c0_3] 25 (0, 0)) (by (with_reducible repeat (first | refine blk_drewN ?_ _ | refine blk_drew ?_ | refine blk_alloc ?_ _)); exact BK101.out) k_ hk⟩)); (case aO => exact (by (with_reducible repeat (first | apply Kd.N_alloc | apply Kd.N_drewN | apply Kd.N_drew)); exact Kd.N_mono HO_7.out (fun _ hk => ⟨hk.1.1, ⟨hk.2, hk.1.2⟩⟩))); (case aS => exact (below_size (by repeat (first | (with_reducible first | exact HB.out | apply below_alloc | apply pw_below_drewN | apply below_drew1 | refine below_set ?_ GE101.out) | exact HB.out)))); (case aL => have := LMc29.out; omega); intro v118 w33 ho hb hg hat; rw [← Ny117.out] at ho; have n0_ := Aside0.mk (Kd.N_afterv (ok := (fun k_ => some k_ ≠ (.slice (some ⟨go26, 0, none⟩) x5_2.length co26 : Value).ownBlock ∧ k_ ≠ gb101)) (by (with_reducible repeat (first | apply Kd.N_alloc | apply Kd.N_drewN | apply Kd.N_drew)); exact Kd.N_mono HO_3.out (fun _ hk => ⟨⟨hk.2, hk.1.2⟩, hk.1.1⟩)) hg hat); have n1_ := Aside0.mk (Kd.R_over' (by (with_reducible repeat (first | apply Kd.R_alloc | apply Kd.R_drewN | apply Kd.R_drew)); exact HO_5.out) (Kd.N_typed (by (with_reducible repeat (first | apply Kd.N_alloc | apply Kd.N_drewN | apply Kd.N_drew)); exact HO_7.out)) (by decide) hg); have n2_ := Aside0.mk (blk_grown (g := gb101) (o := .cells #[.int .i64 a0_0, .int .i64 a0_1, .slice A0_2 l0_2.length c0_2, .slice A0_3 l0_3.length c0_3] 25 (0, 0)) (by (with_reducible repeat (first | refine blk_drewN ?_ _ | refine blk_drew ?_ | refine blk_alloc ?_ _)); exact BK101.out) hg (Kd.N_ne HO_7.out BK101.out (by decide))); have n3_ := Aside0.mk (Kd.V_afterv (ok := (fun k_ => some k_ ≠ (.slice (some ad116) t102.length co17 : Value).ownBlock ∧ some k_ ≠ (.slice (some ⟨go26, 0, none⟩) x5_2.length co26 : Value).ownBlock ∧ k_ ≠ gb101)) (by (with_reducible repeat (first | apply Kd.V_alloc | apply Kd.V_drewN | apply Kd.V_drew)); exact Kd.V_mono HL116_0.out (fun _ hk => ⟨⟨hk.2, ⟨hk.1.2, hk.1.1.2⟩⟩, hk.1.1.1⟩)) hg hat); have n4_ := Aside0.mk (hb); have n5_ := Aside0.mk (ho); clear HO_3; clear HO_5; clear BK101; clear HL116_0; clear HB; clear HO_7; have HO_3 := n0_; have HO_5 := n1_; have BK101 := n2_; have HL116_0 := n3_; have HB := n4_; have HO119 := n5_; clear n0_ n1_ n2_ n3_ n4_ n5_; clear ho hb hg hat))
                            go_roundg k2
                            case measure => have := HJ2.out; have := HK2.out; omega
                            case rel => exact ⟨(y114), (wrap64 (x6_2 + 1)), (y117), (wrap64 (x8_2 + 1)), (by first | rfl | (simp; done) | (simp [*]; done)), (by first | rfl | (simp; done) | (simp [*]; done)), H', ⟨by have := HJ2.out; have := HK2.out; omega⟩, ⟨by (with_reducible repeat (first | apply Kd.N_alloc | apply Kd.N_drewN | apply Kd.N_drew)); exact Kd.N_mono HO_3.out (fun _ hk => ⟨hk.1.1, ⟨hk.2, hk.1.2⟩⟩)⟩, ⟨by (with_reducible repeat (first | apply Kd.R_alloc | apply Kd.R_drewN | apply Kd.R_drew)); exact HO_5.out⟩, ⟨by (with_reducible repeat (first | apply Kd.N_alloc | apply Kd.N_drewN | apply Kd.N_drew)); exact HO119.out⟩, ⟨by (with_reducible repeat (first | refine blk_drewN ?_ _ | refine blk_drew ?_ | refine blk_alloc ?_ _)); exact BK101.out⟩, ⟨by repeat (first | (with_reducible first | exact HB.out | apply below_alloc | apply pw_below_drewN | apply below_drew1 | refine below_set ?_ GE101.out) | exact HB.out)⟩⟩
                          · rw [if_neg c29] at H
                            exact absurd H (by simp)
                        · replace c28 := Bool.eq_false_iff.mpr c28
                          subst c28
                          have H1 : (if x7_2.length < 5864062014805 then (mooringlaw20_StripeJoins.l0 k2 t102 y114 x6_2 (x7_2 ++ [[]]) (wrap64 (x8_2 + 1)) a0_0 a0_1 l0_2 l0_3) else (none)) = some r := by rw [if_neg (show ¬ (false = true) by decide)] at H; exact H
                          clear H
                          have H := H1
                          clear H1
                          by_cases c34 : x7_2.length < 5864062014805
                          · rw [if_pos c34] at H
                            have LMc34 := Aside0.mk c34
                            clear c34
                            obtain ⟨y120, hy120⟩ : ∃ y_ : List (List Int), y_ = (x7_2 ++ [[]]) := ⟨_, rfl⟩
                            replace H : (mooringlaw20_StripeJoins.l0 k2 t102 y114 x6_2 y120 (wrap64 (x8_2 + 1)) a0_0 a0_1 l0_2 l0_3) = some r := by first | (rw [hy120]; with_reducible exact H) | (have H2_ := (Option.bind_some _ _).symm.trans H; rw [hy120]; with_reducible exact H2_) | (have H2_ := (Option.bind_some _ _).symm.trans H; with_reducible exact H2_) | with_reducible exact H | (rw [hy120]; exact H) | exact H
                            have Ny120 := Aside0.mk hy120
                            clear hy120
                            have H' := Aside0.mk H
                            clear H
                            have hcz35_0 : wr.cell? ⟨gb101, 0, none⟩ = some (.int .i64 a0_0) := (blk_cell BK101.out 0).trans rfl
                            have hcz35_1 : wr.cell? ⟨gb101, 1, none⟩ = some (.int .i64 a0_1) := (blk_cell BK101.out 1).trans rfl
                            have hcz35_2 : wr.cell? ⟨gb101, 2, none⟩ = some (.slice A0_2 l0_2.length c0_2) := (blk_cell BK101.out 2).trans rfl
                            have hcz35_3 : wr.cell? ⟨gb101, 3, none⟩ = some (.slice A0_3 l0_3.length c0_3) := (blk_cell BK101.out 3).trans rfl
                            have hfz35_0 := blk_frozen BK101.out 0
                            have hfz35_1 := blk_frozen BK101.out 1
                            have hfz35_2 := blk_frozen BK101.out 2
                            have hfz35_3 := blk_frozen BK101.out 3
                            have p26 : 0 ≤ (x8_2 : Int) := of_decide_eq_true (by first | (with_reducible assumption) | assumption)
                            have q26 : (x8_2 : Int) < ((x5_2.length : Int) : Int) := of_decide_eq_true (by first | (with_reducible assumption) | assumption)
                            obtain ⟨go26, co26, eo26, gb26, gl26, cl26, HG26⟩ := Kd.R_form HO_5.out (by omega)
                            (first | cases eo26 | (injection eo26 with ea_ en_ ec_; (first | subst ea_ | (injection ea_ with ea_; subst ea_)); subst ec_; clear en_))
                            have GB26 := Aside0.mk gb26
                            have GG26 := Aside0.mk HG26
                            clear gb26 gl26 HG26
                            obtain ⟨hx26_0, hf26_0⟩ := Kd.R_celln false HO_5.out (x8_2 : Int) p26 q26
                            replace p26 := eq_true p26
                            replace q26 := eq_true q26
                            have HP36 := Kd.R_putg HO_5.out (x8_2 : Int) true
                            go_wp2_with (first | ((with_reducible refine gate_store (t := 4) (p := 61) rfl ?_); refine store_event (t := 4) (p := 61) (v := ?vo_w37) (w1 := (wr.setCell ⟨go26, (x8_2 : Int).toNat, none⟩ (.bool true))) ?hg ?ho ?hn ?hr ?_; (case ho => rfl); (case hg => rfl); (case hn => rfl); (case hr => first | (go_simp; done) | (go_simp; rfl)); intro w37 hw; have hg : wr.grownBy w37 (some go26) := (by rw [hw]; exact HP36.2); have hp_ : Kd.R Kd.bool 4 w37 w.heap.size (fun _ => True) (.slice (some ⟨go26, 0, none⟩) x5_2.length co26) y114 := (by rw [hw, Ny114.out]; exact HP36.1); clear HP36; have n0_ := Aside0.mk (Kd.N_afterv (v := (.slice (some ⟨go26, 0, none⟩) x5_2.length co26)) (v1 := (.slice (some ⟨go26, 0, none⟩) x5_2.length co26)) (ok := (fun k_ => some k_ ≠ (u7 : Value).ownBlock ∧ k_ ≠ gb101)) (by (with_reducible repeat (first | apply Kd.N_alloc | apply Kd.N_drewN | apply Kd.N_drew)); exact Kd.N_mono HO_3.out (fun _ hk => ⟨⟨hk.2.1, hk.2.2⟩, hk.1⟩)) hg (.inl rfl)); have n1_ := Aside0.mk (hp_); have n2_ := Aside0.mk (Kd.N_afterv (v := (.slice (some ⟨go26, 0, none⟩) x5_2.length co26)) (v1 := (.slice (some ⟨go26, 0, none⟩) x5_2.length co26)) (ok := (fun k_ => some k_ ≠ (.slice Ao17 t102.length co17 : Value).ownBlock ∧ k_ ≠ gb101)) (by (with_reducible repeat (first | apply Kd.N_alloc | apply Kd.N_drewN | apply Kd.N_drew)); exact Kd.N_mono HO_7.out (fun _ hk => ⟨⟨hk.1, hk.2.2⟩, hk.2.1⟩)) hg (.inl rfl)); have n3_ := Aside0.mk (blk_grown (g := gb101) (o := .cells #[.int .i64 a0_0, .int .i64 a0_1, .slice A0_2 l0_2.length c0_2, .slice A0_3 l0_3.length c0_3] 25 (0, 0)) (by (with_reducible repeat (first | refine blk_drewN ?_ _ | refine blk_drew ?_ | refine blk_alloc ?_ _)); exact BK101.out) hg (Kd.R_ne HO_5.out BK101.out (by decide))); have n4_ := Aside0.mk ((by rw [hw]; exact below_set (HB.out) GB26.out : Below w.heap.size w w37)); clear HO_3; clear HO_5; clear HO_7; clear BK101; clear HB; have HO_3 := n0_; have HO_5 := n1_; have HO_7 := n2_; have BK101 := n3_; have HB := n4_; clear n0_ n1_ n2_ n3_ n4_; clear hg hw hp_; have p115 : 0 ≤ (x8_2 : Int) := of_decide_eq_true (by first | (with_reducible assumption) | assumption); have q115 : x8_2 < (y114.length : Int) := (by have h_ : (x8_2 : Int) < ((x5_2.length : Int) : Int) := of_decide_eq_true (by first | (with_reducible assumption) | assumption); first | (have e_ := (Kd.R_reads' HO_5.out).1; omega) | simpa only [Ny114.out, List.length_set] using h_); have ql115 : ((x8_2 : Int) < ((x5_2.length : Int) : Int)) = True := eq_true (of_decide_eq_true (by first | (with_reducible assumption) | assumption)); obtain ⟨ad115, e115, hx115_0⟩ := Kd.at_bool (Kd.R_reads' HO_5.out).2.2 x8_2 p115 q115; (try rw [← Nbq27.out] at hx115_0); obtain rfl : (⟨go26, 0, none⟩ : Addr) = ad115 := (by injection e115); (first | simp only [add_plain] at hx115_0 | simp only [add_at] at hx115_0 | simp only [Addr.add, Nat.zero_add] at hx115_0 | skip); replace p115 := eq_true p115; replace q115 := eq_true q115) | ((with_reducible refine gate_builtin (b := .append) (xs := #[.tmp 75, .tmp 76]) rfl ?_); (try (refine gate_guard (by rfl) ?_; dsimp only)); at_builtin; refine Kd.N_append (Kd.slice 5 (Kd.int .u8)) (w0 := w) w.heap.size rfl (.tmp 75) (.tmp 76) 26 22 (.slice none 0 0) 24 rfl Tryd.underlying26 info22 rfl (by decide) (by omega) u7 x7_2 [] [.slice none 0 0] (fun k_ => some k_ ≠ (.slice Ao17 t102.length co17 : Value).ownBlock ∧ some k_ ≠ (.slice (some ⟨go26, 0, none⟩) x5_2.length co26 : Value).ownBlock ∧ k_ ≠ gb101) (fun _ => False) rfl rfl ?aP (fun _ hk => hk.elim) ?aF ?aO ?aB ?aS ?aL ?_; (case aP => exact (Kd.FK_slice_mk (Nat.le_refl _) (Kd.F_nil _ _ _))); (case aB => exact (by repeat (first | (with_reducible first | exact HB.out | apply below_alloc | apply pw_below_drewN | apply below_drew1 | refine below_set ?_ GE101.out) | exact HB.out))); (case aF => exact (fun k_ hk => ⟨Kd.fresh' (Kd.N_lt (by (with_reducible repeat (first | apply Kd.N_alloc | apply Kd.N_drewN | apply Kd.N_drew)); exact HO_3.out)) k_ hk, Kd.fresh' (Kd.R_lt (by (with_reducible repeat (first | apply Kd.R_alloc | apply Kd.R_drewN | apply Kd.R_drew)); exact HO_5.out)) k_ hk, Kd.freshB (g := gb101) (o := .cells #[.int .i64 a0_0, .int .i64 a0_1, .slice A0_2 l0_2.length c0_2, .slice A0_3 l0_3.length c0_3] 25 (0, 0)) (by (with_reducible repeat (first | refine blk_drewN ?_ _ | refine blk_drew ?_ | refine blk_alloc ?_ _)); exact BK101.out) k_ hk⟩)); (case aO => exact (by (with_reducible repeat (first | apply Kd.N_alloc | apply Kd.N_drewN | apply Kd.N_drew)); exact Kd.N_mono HO_7.out (fun _ hk => ⟨hk.1.1, ⟨hk.2, hk.1.2⟩⟩))); (case aS => exact (below_size (by repeat (first | (with_reducible first | exact HB.out | apply below_alloc | apply pw_below_drewN | apply below_drew1 | refine below_set ?_ GE101.out) | exact HB.out)))); (case aL => have := LMc34.out; omega); intro v121 w38 ho hb hg hat; rw [← Ny120.out] at ho; have n0_ := Aside0.mk (Kd.N_afterv (ok := (fun k_ => some k_ ≠ (.slice (some ⟨go26, 0, none⟩) x5_2.length co26 : Value).ownBlock ∧ k_ ≠ gb101)) (by (with_reducible repeat (first | apply Kd.N_alloc | apply Kd.N_drewN | apply Kd.N_drew)); exact Kd.N_mono HO_3.out (fun _ hk => ⟨⟨hk.2, hk.1.2⟩, hk.1.1⟩)) hg hat); have n1_ := Aside0.mk (Kd.R_over' (by (with_reducible repeat (first | apply Kd.R_alloc | apply Kd.R_drewN | apply Kd.R_drew)); exact HO_5.out) (Kd.N_typed (by (with_reducible repeat (first | apply Kd.N_alloc | apply Kd.N_drewN | apply Kd.N_drew)); exact HO_7.out)) (by decide) hg); have n2_ := Aside0.mk (blk_grown (g := gb101) (o := .cells #[.int .i64 a0_0, .int .i64 a0_1, .slice A0_2 l0_2.length c0_2, .slice A0_3 l0_3.length c0_3] 25 (0, 0)) (by (with_reducible repeat (first | refine blk_drewN ?_ _ | refine blk_drew ?_ | refine blk_alloc ?_ _)); exact BK101.out) hg (Kd.N_ne HO_7.out BK101.out (by decide))); have n3_ := Aside0.mk (hb); have n4_ := Aside0.mk (ho); clear HO_3; clear HO_5; clear BK101; clear HB; clear HO_7; have HO_3 := n0_; have HO_5 := n1_; have BK101 := n2_; have HB := n3_; have HO122 := n4_; clear n0_ n1_ n2_ n3_ n4_; clear ho hb hg hat))
                            go_roundg k2
                            case measure => have := HJ2.out; have := HK2.out; omega
                            case rel => exact ⟨(y114), (x6_2), (y120), (wrap64 (x8_2 + 1)), (by first | rfl | (simp; done) | (simp [*]; done)), (by first | rfl | (simp; done) | (simp [*]; done)), H', ⟨by have := HJ2.out; have := HK2.out; omega⟩, ⟨by (with_reducible repeat (first | apply Kd.N_alloc | apply Kd.N_drewN | apply Kd.N_drew)); exact Kd.N_mono HO_3.out (fun _ hk => ⟨hk.1.1, ⟨hk.2, hk.1.2⟩⟩)⟩, ⟨by (with_reducible repeat (first | apply Kd.R_alloc | apply Kd.R_drewN | apply Kd.R_drew)); exact HO_5.out⟩, ⟨by (with_reducible repeat (first | apply Kd.N_alloc | apply Kd.N_drewN | apply Kd.N_drew)); exact HO122.out⟩, ⟨by (with_reducible repeat (first | refine blk_drewN ?_ _ | refine blk_drew ?_ | refine blk_alloc ?_ _)); exact BK101.out⟩, ⟨by repeat (first | (with_reducible first | exact HB.out | apply below_alloc | apply pw_below_drewN | apply below_drew1 | refine below_set ?_ GE101.out) | exact HB.out)⟩⟩
                          · rw [if_neg c34] at H
                            exact absurd H (by simp)
                      · rw [if_neg c25] at H
                        exact absurd H (by simp)
                    · rw [if_neg c24] at H
                      exact absurd H (by simp)
                  · rw [if_neg c23] at H
                    have c23b0 : decide ((l0_3.length : Int) ≤ x8_2) = false := decide_eq_false c23
                    clear c23
                    by_cases c39 : 0 ≤ x8_2
                    · rw [if_pos c39] at H
                      have c39b0 : decide (0 ≤ x8_2) = true := decide_eq_true c39
                      clear c39
                      by_cases c40 : x8_2 < (l0_3.length : Int)
                      · rw [if_pos c40] at H
                        have c40b0 : decide (x8_2 < (l0_3.length : Int)) = true := decide_eq_true c40
                        clear c40
                        by_cases c41 : x8_2 < (x5_2.length : Int)
                        · rw [if_pos c41] at H
                          have c41b0 : decide (x8_2 < (x5_2.length : Int)) = true := decide_eq_true c41
                          clear c41
                          obtain ⟨y124, hy124⟩ : ∃ y_ : List Bool, y_ = (x5_2.set (x8_2 : Int).toNat (rdOf false l0_3 x8_2)) := ⟨_, rfl⟩
                          replace H : (if rdOf false y124 x8_2 = true then (if x7_2.length < 5864062014805 then (mooringlaw20_StripeJoins.l0 k2 t102 y124 (wrap64 (x6_2 + 1)) (x7_2 ++ [rd_L1 t102 x8_2]) (wrap64 (x8_2 + 1)) a0_0 a0_1 l0_2 l0_3) else (none)) else (if x7_2.length < 5864062014805 then (mooringlaw20_StripeJoins.l0 k2 t102 y124 x6_2 (x7_2 ++ [[]]) (wrap64 (x8_2 + 1)) a0_0 a0_1 l0_2 l0_3) else (none))) = some r := by first | (rw [hy124]; with_reducible exact H) | (have H2_ := (Option.bind_some _ _).symm.trans H; rw [hy124]; with_reducible exact H2_) | (have H2_ := (Option.bind_some _ _).symm.trans H; with_reducible exact H2_) | with_reducible exact H | (rw [hy124]; exact H) | exact H
                          have Ny124 := Aside0.mk hy124
                          clear hy124
                          obtain ⟨bq43, hbq43⟩ : ∃ b_ : Bool, b_ = (rdOf false y124 x8_2) := ⟨_, rfl⟩
                          replace H : (if bq43 = true then (if x7_2.length < 5864062014805 then (mooringlaw20_StripeJoins.l0 k2 t102 y124 (wrap64 (x6_2 + 1)) (x7_2 ++ [rd_L1 t102 x8_2]) (wrap64 (x8_2 + 1)) a0_0 a0_1 l0_2 l0_3) else (none)) else (if x7_2.length < 5864062014805 then (mooringlaw20_StripeJoins.l0 k2 t102 y124 x6_2 (x7_2 ++ [[]]) (wrap64 (x8_2 + 1)) a0_0 a0_1 l0_2 l0_3) else (none))) = some r := by rw [← hbq43] at H; exact H
                          have Nbq43 := Aside0.mk hbq43
                          clear hbq43
                          by_cases c44 : bq43 = true
                          · subst c44
                            have H1 : (if x7_2.length < 5864062014805 then (mooringlaw20_StripeJoins.l0 k2 t102 y124 (wrap64 (x6_2 + 1)) (x7_2 ++ [rd_L1 t102 x8_2]) (wrap64 (x8_2 + 1)) a0_0 a0_1 l0_2 l0_3) else (none)) = some r := by rw [if_pos rfl] at H; exact H
                            clear H
                            have H := H1
                            clear H1
                            by_cases c45 : x7_2.length < 5864062014805
                            · rw [if_pos c45] at H
                              have LMc45 := Aside0.mk c45
                              clear c45
                              obtain ⟨y127, hy127⟩ : ∃ y_ : List (List Int), y_ = (x7_2 ++ [rd_L1 t102 x8_2]) := ⟨_, rfl⟩
                              replace H : (mooringlaw20_StripeJoins.l0 k2 t102 y124 (wrap64 (x6_2 + 1)) y127 (wrap64 (x8_2 + 1)) a0_0 a0_1 l0_2 l0_3) = some r := by first | (rw [hy127]; with_reducible exact H) | (have H2_ := (Option.bind_some _ _).symm.trans H; rw [hy127]; with_reducible exact H2_) | (have H2_ := (Option.bind_some _ _).symm.trans H; with_reducible exact H2_) | with_reducible exact H | (rw [hy127]; exact H) | exact H
                              have Ny127 := Aside0.mk hy127
                              clear hy127
                              have H' := Aside0.mk H
                              clear H
                              have hcz46_0 : wr.cell? ⟨gb101, 0, none⟩ = some (.int .i64 a0_0) := (blk_cell BK101.out 0).trans rfl
                              have hcz46_1 : wr.cell? ⟨gb101, 1, none⟩ = some (.int .i64 a0_1) := (blk_cell BK101.out 1).trans rfl
                              have hcz46_2 : wr.cell? ⟨gb101, 2, none⟩ = some (.slice A0_2 l0_2.length c0_2) := (blk_cell BK101.out 2).trans rfl
                              have hcz46_3 : wr.cell? ⟨gb101, 3, none⟩ = some (.slice A0_3 l0_3.length c0_3) := (blk_cell BK101.out 3).trans rfl
                              have hfz46_0 := blk_frozen BK101.out 0
                              have hfz46_1 := blk_frozen BK101.out 1
                              have hfz46_2 := blk_frozen BK101.out 2
                              have hfz46_3 := blk_frozen BK101.out 3
                              have p123 : 0 ≤ (x8_2 : Int) := of_decide_eq_true (by first | (with_reducible assumption) | assumption)
                              have q123 : x8_2 < (l0_3.length : Int) := of_decide_eq_true (by first | (with_reducible assumption) | assumption)
                              obtain ⟨ad123, e123, hx123_0⟩ := Kd.at_bool HR0_3.out x8_2 p123 q123
                              (try rw [← Nbq43.out] at hx123_0)
                              cases e123
                              replace hx123_0 := (HB.out.cell (World.block_lt_of_cell? w _ hx123_0)).trans hx123_0
                              replace p123 := eq_true p123
                              replace q123 := eq_true q123
                              have p42 : 0 ≤ (x8_2 : Int) := of_decide_eq_true (by first | (with_reducible assumption) | assumption)
                              have q42 : (x8_2 : Int) < ((x5_2.length : Int) : Int) := of_decide_eq_true (by first | (with_reducible assumption) | assumption)
                              obtain ⟨go42, co42, eo42, gb42, gl42, cl42, HG42⟩ := Kd.R_form HO_5.out (by omega)
                              (first | cases eo42 | (injection eo42 with ea_ en_ ec_; (first | subst ea_ | (injection ea_ with ea_; subst ea_)); subst ec_; clear en_))
                              have GB42 := Aside0.mk gb42
                              have GG42 := Aside0.mk HG42
                              clear gb42 gl42 HG42
                              obtain ⟨hx42_0, hf42_0⟩ := Kd.R_celln false HO_5.out (x8_2 : Int) p42 q42
                              replace p42 := eq_true p42
                              replace q42 := eq_true q42
                              have HP47 := Kd.R_putg HO_5.out (x8_2 : Int) (rdOf false l0_3 x8_2)
                              go_wp2_with (first | ((with_reducible refine gate_store (t := 4) (p := 61) rfl ?_); refine store_event (t := 4) (p := 61) (v := ?vo_w48) (w1 := (wr.setCell ⟨go42, (x8_2 : Int).toNat, none⟩ (.bool (rdOf false l0_3 x8_2)))) ?hg ?ho ?hn ?hr ?_; (case ho => rfl); (case hg => rfl); (case hn => rfl); (case hr => first | (go_simp; done) | (go_simp; rfl)); intro w48 hw; have hg : wr.grownBy w48 (some go42) := (by rw [hw]; exact HP47.2); have hp_ : Kd.R Kd.bool 4 w48 w.heap.size (fun _ => True) (.slice (some ⟨go42, 0, none⟩) x5_2.length co42) y124 := (by rw [hw, Ny124.out]; exact HP47.1); clear HP47; have n0_ := Aside0.mk (Kd.N_afterv (v := (.slice (some ⟨go42, 0, none⟩) x5_2.length co42)) (v1 := (.slice (some ⟨go42, 0, none⟩) x5_2.length co42)) (ok := (fun k_ => some k_ ≠ (u7 : Value).ownBlock ∧ k_ ≠ gb101)) (by (with_reducible repeat (first | apply Kd.N_alloc | apply Kd.N_drewN | apply Kd.N_drew)); exact Kd.N_mono HO_3.out (fun _ hk => ⟨⟨hk.2.1, hk.2.2⟩, hk.1⟩)) hg (.inl rfl)); have n1_ := Aside0.mk (hp_); have n2_ := Aside0.mk (Kd.N_afterv (v := (.slice (some ⟨go42, 0, none⟩) x5_2.length co42)) (v1 := (.slice (some ⟨go42, 0, none⟩) x5_2.length co42)) (ok := (fun k_ => some k_ ≠ (.slice Ao17 t102.length co17 : Value).ownBlock ∧ k_ ≠ gb101)) (by (with_reducible repeat (first | apply Kd.N_alloc | apply Kd.N_drewN | apply Kd.N_drew)); exact Kd.N_mono HO_7.out (fun _ hk => ⟨⟨hk.1, hk.2.2⟩, hk.2.1⟩)) hg (.inl rfl)); have n3_ := Aside0.mk (blk_grown (g := gb101) (o := .cells #[.int .i64 a0_0, .int .i64 a0_1, .slice A0_2 l0_2.length c0_2, .slice (some ad123) l0_3.length c0_3] 25 (0, 0)) (by (with_reducible repeat (first | refine blk_drewN ?_ _ | refine blk_drew ?_ | refine blk_alloc ?_ _)); exact BK101.out) hg (Kd.R_ne HO_5.out BK101.out (by decide))); have n4_ := Aside0.mk ((by rw [hw]; exact below_set (HB.out) GB42.out : Below w.heap.size w w48)); clear HO_3; clear HO_5; clear HO_7; clear BK101; clear HB; have HO_3 := n0_; have HO_5 := n1_; have HO_7 := n2_; have BK101 := n3_; have HB := n4_; clear n0_ n1_ n2_ n3_ n4_; clear hg hw hp_; have p125 : 0 ≤ (x8_2 : Int) := of_decide_eq_true (by first | (with_reducible assumption) | assumption); have q125 : x8_2 < (y124.length : Int) := (by have h_ : (x8_2 : Int) < ((x5_2.length : Int) : Int) := of_decide_eq_true (by first | (with_reducible assumption) | assumption); first | (have e_ := (Kd.R_reads' HO_5.out).1; omega) | simpa only [Ny124.out, List.length_set] using h_); have ql125 : ((x8_2 : Int) < ((x5_2.length : Int) : Int)) = True := eq_true (of_decide_eq_true (by first | (with_reducible assumption) | assumption)); obtain ⟨ad125, e125, hx125_0⟩ := Kd.at_bool (Kd.R_reads' HO_5.out).2.2 x8_2 p125 q125; (try rw [← Nbq43.out] at hx125_0); obtain rfl : (⟨go42, 0, none⟩ : Addr) = ad125 := (by injection e125); (first | simp only [add_plain] at hx125_0 | simp only [add_at] at hx125_0 | simp only [Addr.add, Nat.zero_add] at hx125_0 | skip); replace p125 := eq_true p125; replace q125 := eq_true q125; have p126 : 0 ≤ (x8_2 : Int) := of_decide_eq_true (by first | (with_reducible assumption) | assumption); have q126 : x8_2 < (t102.length : Int) := of_decide_eq_true (by first | (with_reducible assumption) | assumption); obtain ⟨ad126, A126_0, c126_0, e126, hx126_0, hl126_0, hi126_0⟩ := at_L1 (Kd.N_reads' HO_3.out).2.2 x8_2 p126 q126; cases e126; obtain ⟨ce126, hce126, hMe126, hcc126⟩ := Kd.N_get HO_3.out [] x8_2 p126 (by first | exact q126 | exact of_decide_eq_true (by first | (with_reducible assumption) | assumption) | (have e_ := (Kd.N_reads' HO_3.out).1; omega)); obtain ⟨ua126_0, uc126_0, rfl, ul126_0, ge126_0⟩ := Kd.FK_slice_open hMe126; have hv126_0 := hcc126 0 _ rfl; rw [Nat.add_zero, show ((Kd.slice 5 (Kd.int .u8))).sz = 1 from rfl, Nat.mul_one] at hv126_0; replace hv126_0 := Option.some.inj (hv126_0.symm.trans hx126_0); injection hv126_0 with hva_ hvn_ hvc_; rw [hva_] at ge126_0; rw [hvc_] at ul126_0; have HL126_0 := Aside0.mk (show Kd.V (Kd.int .u8) 5 _ w.heap.size _ _ (rd_L1 t102 x8_2) from Kd.V_mk ul126_0 ge126_0); clear hva_ hvn_ hvc_ ge126_0 ul126_0; clear hcc126 hce126; have HR126_0 := Aside0.mk hi126_0; have HC126_0 := Aside0.mk hl126_0; clear hi126_0 hl126_0; replace p126 := eq_true p126; replace q126 := eq_true q126) | ((with_reducible refine gate_builtin (b := .append) (xs := #[.tmp 68, .tmp 73]) rfl ?_); (try (refine gate_guard (by rfl) ?_; dsimp only)); at_builtin; refine Kd.N_append (Kd.slice 5 (Kd.int .u8)) (w0 := w) w.heap.size rfl (.tmp 68) (.tmp 73) 26 22 (.slice none 0 0) 24 rfl Tryd.underlying26 info22 rfl (by decide) (by omega) u7 x7_2 (rd_L1 t102 x8_2) [.slice A126_0 (rd_L1 t102 x8_2).length c126_0] (fun k_ => some k_ ≠ (.slice (some ad126) t102.length co17 : Value).ownBlock ∧ some k_ ≠ (.slice (some ⟨go42, 0, none⟩) x5_2.length co42 : Value).ownBlock ∧ k_ ≠ gb101) (fun k_ => ((fun k_ => some k_ ≠ (.slice (some ad126) t102.length co17 : Value).ownBlock ∧ some k_ ≠ (.slice (some ⟨go42, 0, none⟩) x5_2.length co42 : Value).ownBlock ∧ k_ ≠ gb101)) k_ ∧ some k_ ≠ (u7 : Value).ownBlock) rfl rfl ?aP (fun _ hk => hk) ?aF ?aO ?aB ?aS ?aL ?_; (case aP => exact (Kd.FK_slice_mk (Kd.V_reads' (Kd.V_mono (ok' := (fun k_ => ((fun k_ => some k_ ≠ (.slice (some ad126) t102.length co17 : Value).ownBlock ∧ some k_ ≠ (.slice (some ⟨go42, 0, none⟩) x5_2.length co42 : Value).ownBlock ∧ k_ ≠ gb101)) k_ ∧ some k_ ≠ (u7 : Value).ownBlock)) (HL126_0.out) (fun k_ hk => ⟨⟨hk.2, ⟨hk.1.2, hk.1.1.2⟩⟩, hk.1.1.1⟩))).2.1 (Kd.V_F (Kd.V_mono (ok' := (fun k_ => ((fun k_ => some k_ ≠ (.slice (some ad126) t102.length co17 : Value).ownBlock ∧ some k_ ≠ (.slice (some ⟨go42, 0, none⟩) x5_2.length co42 : Value).ownBlock ∧ k_ ≠ gb101)) k_ ∧ some k_ ≠ (u7 : Value).ownBlock)) (HL126_0.out) (fun k_ hk => ⟨⟨hk.2, ⟨hk.1.2, hk.1.1.2⟩⟩, hk.1.1.1⟩))))); (case aB => exact (by repeat (first | (with_reducible first | exact HB.out | apply below_alloc | apply pw_below_drewN | apply below_drew1 | refine below_set ?_ GE101.out) | exact HB.out))); (case aF => exact (fun k_ hk => ⟨Kd.fresh' (Kd.N_lt (by (with_reducible repeat (first | apply Kd.N_alloc | apply Kd.N_drewN | apply Kd.N_drew)); exact HO_3.out)) k_ hk, Kd.fresh' (Kd.R_lt (by (with_reducible repeat (first | apply Kd.R_alloc | apply Kd.R_drewN | apply Kd.R_drew)); exact HO_5.out)) k_ hk, Kd.freshB (g := gb101) (o := .cells #[.int .i64 a0_0, .int .i64 a0_1, .slice A0_2 l0_2.length c0_2, .slice (some ad123) l0_3.length c0_3] 25 (0, 0)) (by (with_reducible repeat (first | refine blk_drewN ?_ _ | refine blk_drew ?_ | refine blk_alloc ?_ _)); exact BK101.out) k_ hk⟩)); (case aO => exact (by (with_reducible repeat (first | apply Kd.N_alloc | apply Kd.N_drewN | apply Kd.N_drew)); exact Kd.N_mono HO_7.out (fun _ hk => ⟨hk.1.1, ⟨hk.2, hk.1.2⟩⟩))); (case aS => exact (below_size (by repeat (first | (with_reducible first | exact HB.out | apply below_alloc | apply pw_below_drewN | apply below_drew1 | refine below_set ?_ GE101.out) | exact HB.out)))); (case aL => have := LMc45.out; omega); intro v128 w49 ho hb hg hat; rw [← Ny127.out] at ho; have n0_ := Aside0.mk (Kd.N_afterv (ok := (fun k_ => some k_ ≠ (.slice (some ⟨go42, 0, none⟩) x5_2.length co42 : Value).ownBlock ∧ k_ ≠ gb101)) (by (with_reducible repeat (first | apply Kd.N_alloc | apply Kd.N_drewN | apply Kd.N_drew)); exact Kd.N_mono HO_3.out (fun _ hk => ⟨⟨hk.2, hk.1.2⟩, hk.1.1⟩)) hg hat); have n1_ := Aside0.mk (Kd.R_over' (by (with_reducible repeat (first | apply Kd.R_alloc | apply Kd.R_drewN | apply Kd.R_drew)); exact HO_5.out) (Kd.N_typed (by (with_reducible repeat (first | apply Kd.N_alloc | apply Kd.N_drewN | apply Kd.N_drew)); exact HO_7.out)) (by decide) hg); have n2_ := Aside0.mk (blk_grown (g := gb101) (o := .cells #[.int .i64 a0_0, .int .i64 a0_1, .slice A0_2 l0_2.length c0_2, .slice (some ad123) l0_3.length c0_3] 25 (0, 0)) (by (with_reducible repeat (first | refine blk_drewN ?_ _ | refine blk_drew ?_ | refine blk_alloc ?_ _)); exact BK101.out) hg (Kd.N_ne HO_7.out BK101.out (by decide))); have n3_ := Aside0.mk (Kd.V_afterv (ok := (fun k_ => some k_ ≠ (.slice (some ad126) t102.length co17 : Value).ownBlock ∧ some k_ ≠ (.slice (some ⟨go42, 0, none⟩) x5_2.length co42 : Value).ownBlock ∧ k_ ≠ gb101)) (by (with_reducible repeat (first | apply Kd.V_alloc | apply Kd.V_drewN | apply Kd.V_drew)); exact Kd.V_mono HL126_0.out (fun _ hk => ⟨⟨hk.2, ⟨hk.1.2, hk.1.1.2⟩⟩, hk.1.1.1⟩)) hg hat); have n4_ := Aside0.mk (hb); have n5_ := Aside0.mk (ho); clear HO_3; clear HO_5; clear BK101; clear HL126_0; clear HB; clear HO_7; have HO_3 := n0_; have HO_5 := n1_; have BK101 := n2_; have HL126_0 := n3_; have HB := n4_; have HO129 := n5_; clear n0_ n1_ n2_ n3_ n4_ n5_; clear ho hb hg hat))
                              go_roundg k2
                              case measure => have := HJ2.out; have := HK2.out; omega
                              case rel => exact ⟨(y124), (wrap64 (x6_2 + 1)), (y127), (wrap64 (x8_2 + 1)), (by first | rfl | (simp; done) | (simp [*]; done)), (by first | rfl | (simp; done) | (simp [*]; done)), H', ⟨by have := HJ2.out; have := HK2.out; omega⟩, ⟨by (with_reducible repeat (first | apply Kd.N_alloc | apply Kd.N_drewN | apply Kd.N_drew)); exact Kd.N_mono HO_3.out (fun _ hk => ⟨hk.1.1, ⟨hk.2, hk.1.2⟩⟩)⟩, ⟨by (with_reducible repeat (first | apply Kd.R_alloc | apply Kd.R_drewN | apply Kd.R_drew)); exact HO_5.out⟩, ⟨by (with_reducible repeat (first | apply Kd.N_alloc | apply Kd.N_drewN | apply Kd.N_drew)); exact HO129.out⟩, ⟨by (with_reducible repeat (first | refine blk_drewN ?_ _ | refine blk_drew ?_ | refine blk_alloc ?_ _)); exact BK101.out⟩, ⟨by repeat (first | (with_reducible first | exact HB.out | apply below_alloc | apply pw_below_drewN | apply below_drew1 | refine below_set ?_ GE101.out) | exact HB.out)⟩⟩
                            · rw [if_neg c45] at H
                              exact absurd H (by simp)
                          · replace c44 := Bool.eq_false_iff.mpr c44
                            subst c44
                            have H1 : (if x7_2.length < 5864062014805 then (mooringlaw20_StripeJoins.l0 k2 t102 y124 x6_2 (x7_2 ++ [[]]) (wrap64 (x8_2 + 1)) a0_0 a0_1 l0_2 l0_3) else (none)) = some r := by rw [if_neg (show ¬ (false = true) by decide)] at H; exact H
                            clear H
                            have H := H1
                            clear H1
                            by_cases c50 : x7_2.length < 5864062014805
                            · rw [if_pos c50] at H
                              have LMc50 := Aside0.mk c50
                              clear c50
                              obtain ⟨y130, hy130⟩ : ∃ y_ : List (List Int), y_ = (x7_2 ++ [[]]) := ⟨_, rfl⟩
                              replace H : (mooringlaw20_StripeJoins.l0 k2 t102 y124 x6_2 y130 (wrap64 (x8_2 + 1)) a0_0 a0_1 l0_2 l0_3) = some r := by first | (rw [hy130]; with_reducible exact H) | (have H2_ := (Option.bind_some _ _).symm.trans H; rw [hy130]; with_reducible exact H2_) | (have H2_ := (Option.bind_some _ _).symm.trans H; with_reducible exact H2_) | with_reducible exact H | (rw [hy130]; exact H) | exact H
                              have Ny130 := Aside0.mk hy130
                              clear hy130
                              have H' := Aside0.mk H
                              clear H
                              have hcz51_0 : wr.cell? ⟨gb101, 0, none⟩ = some (.int .i64 a0_0) := (blk_cell BK101.out 0).trans rfl
                              have hcz51_1 : wr.cell? ⟨gb101, 1, none⟩ = some (.int .i64 a0_1) := (blk_cell BK101.out 1).trans rfl
                              have hcz51_2 : wr.cell? ⟨gb101, 2, none⟩ = some (.slice A0_2 l0_2.length c0_2) := (blk_cell BK101.out 2).trans rfl
                              have hcz51_3 : wr.cell? ⟨gb101, 3, none⟩ = some (.slice A0_3 l0_3.length c0_3) := (blk_cell BK101.out 3).trans rfl
                              have hfz51_0 := blk_frozen BK101.out 0
                              have hfz51_1 := blk_frozen BK101.out 1
                              have hfz51_2 := blk_frozen BK101.out 2
                              have hfz51_3 := blk_frozen BK101.out 3
                              have p123 : 0 ≤ (x8_2 : Int) := of_decide_eq_true (by first | (with_reducible assumption) | assumption)
                              have q123 : x8_2 < (l0_3.length : Int) := of_decide_eq_true (by first | (with_reducible assumption) | assumption)
                              obtain ⟨ad123, e123, hx123_0⟩ := Kd.at_bool HR0_3.out x8_2 p123 q123
                              (try rw [← Nbq43.out] at hx123_0)
                              cases e123
                              replace hx123_0 := (HB.out.cell (World.block_lt_of_cell? w _ hx123_0)).trans hx123_0
                              replace p123 := eq_true p123
                              replace q123 := eq_true q123
                              have p42 : 0 ≤ (x8_2 : Int) := of_decide_eq_true (by first | (with_reducible assumption) | assumption)
                              have q42 : (x8_2 : Int) < ((x5_2.length : Int) : Int) := of_decide_eq_true (by first | (with_reducible assumption) | assumption)
                              obtain ⟨go42, co42, eo42, gb42, gl42, cl42, HG42⟩ := Kd.R_form HO_5.out (by omega)
                              (first | cases eo42 | (injection eo42 with ea_ en_ ec_; (first | subst ea_ | (injection ea_ with ea_; subst ea_)); subst ec_; clear en_))
                              have GB42 := Aside0.mk gb42
                              have GG42 := Aside0.mk HG42
                              clear gb42 gl42 HG42
                              obtain ⟨hx42_0, hf42_0⟩ := Kd.R_celln false HO_5.out (x8_2 : Int) p42 q42
                              replace p42 := eq_true p42
                              replace q42 := eq_true q42
                              have HP52 := Kd.R_putg HO_5.out (x8_2 : Int) (rdOf false l0_3 x8_2)
                              go_wp2_with (first | ((with_reducible refine gate_store (t := 4) (p := 61) rfl ?_); refine store_event (t := 4) (p := 61) (v := ?vo_w53) (w1 := (wr.setCell ⟨go42, (x8_2 : Int).toNat, none⟩ (.bool (rdOf false l0_3 x8_2)))) ?hg ?ho ?hn ?hr ?_; (case ho => rfl); (case hg => rfl); (case hn => rfl); (case hr => first | (go_simp; done) | (go_simp; rfl)); intro w53 hw; have hg : wr.grownBy w53 (some go42) := (by rw [hw]; exact HP52.2); have hp_ : Kd.R Kd.bool 4 w53 w.heap.size (fun _ => True) (.slice (some ⟨go42, 0, none⟩) x5_2.length co42) y124 := (by rw [hw, Ny124.out]; exact HP52.1); clear HP52; have n0_ := Aside0.mk (Kd.N_afterv (v := (.slice (some ⟨go42, 0, none⟩) x5_2.length co42)) (v1 := (.slice (some ⟨go42, 0, none⟩) x5_2.length co42)) (ok := (fun k_ => some k_ ≠ (u7 : Value).ownBlock ∧ k_ ≠ gb101)) (by (with_reducible repeat (first | apply Kd.N_alloc | apply Kd.N_drewN | apply Kd.N_drew)); exact Kd.N_mono HO_3.out (fun _ hk => ⟨⟨hk.2.1, hk.2.2⟩, hk.1⟩)) hg (.inl rfl)); have n1_ := Aside0.mk (hp_); have n2_ := Aside0.mk (Kd.N_afterv (v := (.slice (some ⟨go42, 0, none⟩) x5_2.length co42)) (v1 := (.slice (some ⟨go42, 0, none⟩) x5_2.length co42)) (ok := (fun k_ => some k_ ≠ (.slice Ao17 t102.length co17 : Value).ownBlock ∧ k_ ≠ gb101)) (by (with_reducible repeat (first | apply Kd.N_alloc | apply Kd.N_drewN | apply Kd.N_drew)); exact Kd.N_mono HO_7.out (fun _ hk => ⟨⟨hk.1, hk.2.2⟩, hk.2.1⟩)) hg (.inl rfl)); have n3_ := Aside0.mk (blk_grown (g := gb101) (o := .cells #[.int .i64 a0_0, .int .i64 a0_1, .slice A0_2 l0_2.length c0_2, .slice (some ad123) l0_3.length c0_3] 25 (0, 0)) (by (with_reducible repeat (first | refine blk_drewN ?_ _ | refine blk_drew ?_ | refine blk_alloc ?_ _)); exact BK101.out) hg (Kd.R_ne HO_5.out BK101.out (by decide))); have n4_ := Aside0.mk ((by rw [hw]; exact below_set (HB.out) GB42.out : Below w.heap.size w w53)); clear HO_3; clear HO_5; clear HO_7; clear BK101; clear HB; have HO_3 := n0_; have HO_5 := n1_; have HO_7 := n2_; have BK101 := n3_; have HB := n4_; clear n0_ n1_ n2_ n3_ n4_; clear hg hw hp_; have p125 : 0 ≤ (x8_2 : Int) := of_decide_eq_true (by first | (with_reducible assumption) | assumption); have q125 : x8_2 < (y124.length : Int) := (by have h_ : (x8_2 : Int) < ((x5_2.length : Int) : Int) := of_decide_eq_true (by first | (with_reducible assumption) | assumption); first | (have e_ := (Kd.R_reads' HO_5.out).1; omega) | simpa only [Ny124.out, List.length_set] using h_); have ql125 : ((x8_2 : Int) < ((x5_2.length : Int) : Int)) = True := eq_true (of_decide_eq_true (by first | (with_reducible assumption) | assumption)); obtain ⟨ad125, e125, hx125_0⟩ := Kd.at_bool (Kd.R_reads' HO_5.out).2.2 x8_2 p125 q125; (try rw [← Nbq43.out] at hx125_0); obtain rfl : (⟨go42, 0, none⟩ : Addr) = ad125 := (by injection e125); (first | simp only [add_plain] at hx125_0 | simp only [add_at] at hx125_0 | simp only [Addr.add, Nat.zero_add] at hx125_0 | skip); replace p125 := eq_true p125; replace q125 := eq_true q125) | ((with_reducible refine gate_builtin (b := .append) (xs := #[.tmp 75, .tmp 76]) rfl ?_); (try (refine gate_guard (by rfl) ?_; dsimp only)); at_builtin; refine Kd.N_append (Kd.slice 5 (Kd.int .u8)) (w0 := w) w.heap.size rfl (.tmp 75) (.tmp 76) 26 22 (.slice none 0 0) 24 rfl Tryd.underlying26 info22 rfl (by decide) (by omega) u7 x7_2 [] [.slice none 0 0] (fun k_ => some k_ ≠ (.slice Ao17 t102.length co17 : Value).ownBlock ∧ some k_ ≠ (.slice (some ⟨go42, 0, none⟩) x5_2.length co42 : Value).ownBlock ∧ k_ ≠ gb101) (fun _ => False) rfl rfl ?aP (fun _ hk => hk.elim) ?aF ?aO ?aB ?aS ?aL ?_; (case aP => exact (Kd.FK_slice_mk (Nat.le_refl _) (Kd.F_nil _ _ _))); (case aB => exact (by repeat (first | (with_reducible first | exact HB.out | apply below_alloc | apply pw_below_drewN | apply below_drew1 | refine below_set ?_ GE101.out) | exact HB.out))); (case aF => exact (fun k_ hk => ⟨Kd.fresh' (Kd.N_lt (by (with_reducible repeat (first | apply Kd.N_alloc | apply Kd.N_drewN | apply Kd.N_drew)); exact HO_3.out)) k_ hk, Kd.fresh' (Kd.R_lt (by (with_reducible repeat (first | apply Kd.R_alloc | apply Kd.R_drewN | apply Kd.R_drew)); exact HO_5.out)) k_ hk, Kd.freshB (g := gb101) (o := .cells #[.int .i64 a0_0, .int .i64 a0_1, .slice A0_2 l0_2.length c0_2, .slice (some ad123) l0_3.length c0_3] 25 (0, 0)) (by (with_reducible repeat (first | refine blk_drewN ?_ _ | refine blk_drew ?_ | refine blk_alloc ?_ _)); exact BK101.out) k_ hk⟩)); (case aO => exact (by (with_reducible repeat (first | apply Kd.N_alloc | apply Kd.N_drewN | apply Kd.N_drew)); exact Kd.N_mono HO_7.out (fun _ hk => ⟨hk.1.1, ⟨hk.2, hk.1.2⟩⟩))); (case aS => exact (below_size (by repeat (first | (with_reducible first | exact HB.out | apply below_alloc | apply pw_below_drewN | apply below_drew1 | refine below_set ?_ GE101.out) | exact HB.out)))); (case aL => have := LMc50.out; omega); intro v131 w54 ho hb hg hat; rw [← Ny130.out] at ho; have n0_ := Aside0.mk (Kd.N_afterv (ok := (fun k_ => some k_ ≠ (.slice (some ⟨go42, 0, none⟩) x5_2.length co42 : Value).ownBlock ∧ k_ ≠ gb101)) (by (with_reducible repeat (first | apply Kd.N_alloc | apply Kd.N_drewN | apply Kd.N_drew)); exact Kd.N_mono HO_3.out (fun _ hk => ⟨⟨hk.2, hk.1.2⟩, hk.1.1⟩)) hg hat); have n1_ := Aside0.mk (Kd.R_over' (by (with_reducible repeat (first | apply Kd.R_alloc | apply Kd.R_drewN | apply Kd.R_drew)); exact HO_5.out) (Kd.N_typed (by (with_reducible repeat (first | apply Kd.N_alloc | apply Kd.N_drewN | apply Kd.N_drew)); exact HO_7.out)) (by decide) hg); have n2_ := Aside0.mk (blk_grown (g := gb101) (o := .cells #[.int .i64 a0_0, .int .i64 a0_1, .slice A0_2 l0_2.length c0_2, .slice (some ad123) l0_3.length c0_3] 25 (0, 0)) (by (with_reducible repeat (first | refine blk_drewN ?_ _ | refine blk_drew ?_ | refine blk_alloc ?_ _)); exact BK101.out) hg (Kd.N_ne HO_7.out BK101.out (by decide))); have n3_ := Aside0.mk (hb); have n4_ := Aside0.mk (ho); clear HO_3; clear HO_5; clear BK101; clear HB; clear HO_7; have HO_3 := n0_; have HO_5 := n1_; have BK101 := n2_; have HB := n3_; have HO132 := n4_; clear n0_ n1_ n2_ n3_ n4_; clear ho hb hg hat))
                              go_roundg k2
                              case measure => have := HJ2.out; have := HK2.out; omega
                              case rel => exact ⟨(y124), (x6_2), (y130), (wrap64 (x8_2 + 1)), (by first | rfl | (simp; done) | (simp [*]; done)), (by first | rfl | (simp; done) | (simp [*]; done)), H', ⟨by have := HJ2.out; have := HK2.out; omega⟩, ⟨by (with_reducible repeat (first | apply Kd.N_alloc | apply Kd.N_drewN | apply Kd.N_drew)); exact Kd.N_mono HO_3.out (fun _ hk => ⟨hk.1.1, ⟨hk.2, hk.1.2⟩⟩)⟩, ⟨by (with_reducible repeat (first | apply Kd.R_alloc | apply Kd.R_drewN | apply Kd.R_drew)); exact HO_5.out⟩, ⟨by (with_reducible repeat (first | apply Kd.N_alloc | apply Kd.N_drewN | apply Kd.N_drew)); exact HO132.out⟩, ⟨by (with_reducible repeat (first | refine blk_drewN ?_ _ | refine blk_drew ?_ | refine blk_alloc ?_ _)); exact BK101.out⟩, ⟨by repeat (first | (with_reducible first | exact HB.out | apply below_alloc | apply pw_below_drewN | apply below_drew1 | refine below_set ?_ GE101.out) | exact HB.out)⟩⟩
                            · rw [if_neg c50] at H
                              exact absurd H (by simp)
                        · rw [if_neg c41] at H
                          exact absurd H (by simp)
                      · rw [if_neg c40] at H
                        exact absurd H (by simp)
                    · rw [if_neg c39] at H
                      exact absurd H (by simp)
                · rw [if_neg c22] at H
                  have c22b0 : decide (x8_2 < (t102.length : Int)) = false := decide_eq_false c22
                  clear c22
                  replace H := Option.bind_eq_some_iff.mp H
                  obtain ⟨⟨t133, t136⟩, A550, H⟩ := H
                  replace H : (if x6_2 < a0_0 then (if t136 = 4 then (if (t133.length : Int) = 0 then ((mooringlaw20_awake.f k2).bind fun t137 => (some t137)) else (none)) else (none)) else (if t136 = 0 then (if (strOfNums t133).toList = (strOfNums l0_2).toList then ((mooringlaw20_awake.f k2).bind fun t138 => (some t138)) else (none)) else (none))) = some r := H
                  have A55 := Aside0.mk A550
                  clear A550
                  by_cases c56 : x6_2 < a0_0
                  · rw [if_pos c56] at H
                    have c56b0 : decide (x6_2 < a0_0) = true := decide_eq_true c56
                    clear c56
                    by_cases c57 : t136 = 4
                    · rw [if_pos c57] at H
                      have c57b0 : (t136 == 4) = true := beq_iff_eq.mpr c57
                      have c57b1 : (t136 != 4) = false := bne_eq_false_iff_eq.mpr c57
                      clear c57
                      by_cases c58 : (t133.length : Int) = 0
                      · rw [if_pos c58] at H
                        have c58b0 : ((t133.length : Int) == 0) = true := beq_iff_eq.mpr c58
                        have c58b1 : ((t133.length : Int) != 0) = false := bne_eq_false_iff_eq.mpr c58
                        clear c58
                        replace H := Option.bind_eq_some_iff.mp H
                        obtain ⟨t137, A590, H⟩ := H
                        replace H : (some t137) = some r := H
                        have A59 := Aside0.mk A590
                        clear A590
                        obtain rfl := Option.some.inj H
                        have hcz60_0 : wr.cell? ⟨gb101, 0, none⟩ = some (.int .i64 a0_0) := (blk_cell BK101.out 0).trans rfl
                        have hcz60_1 : wr.cell? ⟨gb101, 1, none⟩ = some (.int .i64 a0_1) := (blk_cell BK101.out 1).trans rfl
                        have hcz60_2 : wr.cell? ⟨gb101, 2, none⟩ = some (.slice A0_2 l0_2.length c0_2) := (blk_cell BK101.out 2).trans rfl
                        have hcz60_3 : wr.cell? ⟨gb101, 3, none⟩ = some (.slice A0_3 l0_3.length c0_3) := (blk_cell BK101.out 3).trans rfl
                        have hfz60_0 := blk_frozen BK101.out 0
                        have hfz60_1 := blk_frozen BK101.out 1
                        have hfz60_2 := blk_frozen BK101.out 2
                        have hfz60_3 := blk_frozen BK101.out 3
                        obtain ⟨Ao61, co61, eo61⟩ := Kd.N_slice HO_7.out
                        subst eo61
                        obtain ⟨Ao62, co62, eo62⟩ := Kd.R_slice HO_5.out
                        subst eo62
                        go_wp2_with (first | ((with_reducible refine gate_callee (f := 12) rfl ?_); refine goesL_ (some 88) rfl rfl Tryd.func12 (by kernel_rfl) rfl #[.int .i64 a0_0, .int .i64 a0_1, .int .i64 (l0_2.length : Int), .slice Ao61 x7_2.length co61, .slice Ao62 x5_2.length co62] rfl (by (try simp only [List.map_toArray, List.map_cons, List.map_nil]); first | done | rfl | (simp only [List.length_drop, List.length_take]; rfl)) ?_; (with_reducible refine (stripe_Join.calls k2 a0_0 a0_1 (l0_2.length : Int) _ _ x7_2 _ _ x5_2 t133 t136 _ ?side1 ?side2 ?side3 ?side4 A55.out).mono ?_); (case side1 => repeat (first | exact (Kd.N_reads' HO_7.out).2.2 | (with_reducible refine Kd.C_alloc ?_ _) | (with_reducible refine Kd.C_drewN ?_ _) | (with_reducible refine Kd.C_drew ?_))); (case side2 => exact (Kd.N_reads' HO_7.out).2.1); (case side3 => repeat (first | exact (Kd.R_reads' HO_5.out).2.2 | (with_reducible refine Kd.C_alloc ?_ _) | (with_reducible refine Kd.C_drewN ?_ _) | (with_reducible refine Kd.C_drew ?_))); (case side4 => exact (Kd.R_reads' HO_5.out).2.1); rintro e w63 ⟨v134, rfl, ho0, hb⟩; refine ⟨_, rfl, ?_⟩; have n0_ := Aside0.mk (Kd.N_below (by (with_reducible repeat (first | apply Kd.N_alloc | apply Kd.N_drewN | apply Kd.N_drew)); exact HO_3.out) hb); have n1_ := Aside0.mk (Kd.R_below (by (with_reducible repeat (first | apply Kd.R_alloc | apply Kd.R_drewN | apply Kd.R_drew)); exact HO_5.out) hb); have n2_ := Aside0.mk (Kd.N_below (by (with_reducible repeat (first | apply Kd.N_alloc | apply Kd.N_drewN | apply Kd.N_drew)); exact HO_7.out) hb); have n3_ := Aside0.mk (Kd.V_lower (Kd.V_mono (ok' := fun k_ => some k_ ≠ (.slice Ao17 t102.length co17 : Value).ownBlock ∧ some k_ ≠ (.slice Ao62 x5_2.length co62 : Value).ownBlock ∧ some k_ ≠ (.slice Ao61 x7_2.length co61 : Value).ownBlock ∧ k_ ≠ gb101) ho0 (fun k_ hk_ => ⟨(Kd.fresh' (Kd.N_lt (by (with_reducible repeat (first | apply Kd.N_alloc | apply Kd.N_drewN | apply Kd.N_drew)); exact HO_3.out)) k_ hk_), (Kd.fresh' (Kd.R_lt (by (with_reducible repeat (first | apply Kd.R_alloc | apply Kd.R_drewN | apply Kd.R_drew)); exact HO_5.out)) k_ hk_), (Kd.fresh' (Kd.N_lt (by (with_reducible repeat (first | apply Kd.N_alloc | apply Kd.N_drewN | apply Kd.N_drew)); exact HO_7.out)) k_ hk_), (Kd.freshB (g := gb101) (o := .cells #[.int .i64 a0_0, .int .i64 a0_1, .slice A0_2 l0_2.length c0_2, .slice A0_3 l0_3.length c0_3] 25 (0, 0)) (by (with_reducible repeat (first | refine blk_drewN ?_ _ | refine blk_drew ?_ | refine blk_alloc ?_ _)); exact BK101.out) k_ hk_)⟩)) (below_size (by repeat (first | (with_reducible first | exact HB.out | apply below_alloc | apply pw_below_drewN | apply below_drew1 | refine below_set ?_ GE101.out) | exact HB.out)))); have n4_ := Aside0.mk (blk_below (g := gb101) (o := .cells #[.int .i64 a0_0, .int .i64 a0_1, .slice A0_2 l0_2.length c0_2, .slice A0_3 l0_3.length c0_3] 25 (0, 0)) (by (with_reducible repeat (first | refine blk_drewN ?_ _ | refine blk_drew ?_ | refine blk_alloc ?_ _)); exact BK101.out) hb); have n5_ := Aside0.mk (below_step (by repeat (first | (with_reducible first | exact HB.out | apply below_alloc | apply pw_below_drewN | apply below_drew1 | refine below_set ?_ GE101.out) | exact HB.out)) hb); clear HO_3; clear HO_5; clear HO_7; clear BK101; clear HB; have HO_3 := n0_; have HO_5 := n1_; have HO_7 := n2_; have HO135 := n3_; have BK101 := n4_; have HB := n5_; clear n0_ n1_ n2_ n3_ n4_ n5_; (try clear hb); (try clear hb2); (try clear hk); (try clear hi); (try clear ho0); have hcz64_0 : w63.cell? ⟨gb101, 0, none⟩ = some (.int .i64 a0_0) := (blk_cell BK101.out 0).trans rfl; have hcz64_1 : w63.cell? ⟨gb101, 1, none⟩ = some (.int .i64 a0_1) := (blk_cell BK101.out 1).trans rfl; have hcz64_2 : w63.cell? ⟨gb101, 2, none⟩ = some (.slice A0_2 l0_2.length c0_2) := (blk_cell BK101.out 2).trans rfl; have hcz64_3 : w63.cell? ⟨gb101, 3, none⟩ = some (.slice A0_3 l0_3.length c0_3) := (blk_cell BK101.out 3).trans rfl; have hfz64_0 := blk_frozen BK101.out 0; have hfz64_1 := blk_frozen BK101.out 1; have hfz64_2 := blk_frozen BK101.out 2; have hfz64_3 := blk_frozen BK101.out 3; obtain ⟨Ao65, co65, eo65⟩ := Kd.V_slice HO135.out; subst eo65) | (go_at_call 11; (with_reducible refine (mooringlaw20_awake.calls k2  t137 _ A59.out).mono ?_); rintro e w66 ⟨rfl, hb⟩; have n0_ := Aside0.mk (Kd.N_below (by (with_reducible repeat (first | apply Kd.N_alloc | apply Kd.N_drewN | apply Kd.N_drew)); exact HO_3.out) hb); have n1_ := Aside0.mk (Kd.R_below (by (with_reducible repeat (first | apply Kd.R_alloc | apply Kd.R_drewN | apply Kd.R_drew)); exact HO_5.out) hb); have n2_ := Aside0.mk (Kd.N_below (by (with_reducible repeat (first | apply Kd.N_alloc | apply Kd.N_drewN | apply Kd.N_drew)); exact HO_7.out) hb); have n3_ := Aside0.mk (Kd.V_below (by (with_reducible repeat (first | apply Kd.V_alloc | apply Kd.V_drewN | apply Kd.V_drew)); exact HO135.out) hb); have n4_ := Aside0.mk (blk_below (g := gb101) (o := .cells #[.int .i64 a0_0, .int .i64 a0_1, .slice A0_2 l0_2.length c0_2, .slice A0_3 l0_3.length c0_3] 25 (0, 0)) (by (with_reducible repeat (first | refine blk_drewN ?_ _ | refine blk_drew ?_ | refine blk_alloc ?_ _)); exact BK101.out) hb); have n5_ := Aside0.mk (below_step (by repeat (first | (with_reducible first | exact HB.out | apply below_alloc | apply pw_below_drewN | apply below_drew1 | refine below_set ?_ GE101.out) | exact HB.out)) hb); clear HO_3; clear HO_5; clear HO_7; clear HO135; clear BK101; clear HB; have HO_3 := n0_; have HO_5 := n1_; have HO_7 := n2_; have HO135 := n3_; have BK101 := n4_; have HB := n5_; clear n0_ n1_ n2_ n3_ n4_ n5_; (try clear hb); (try clear hb2); (try clear hk); (try clear hi)))
                        go_ret
                        exact ⟨by first | rfl | (simp [errW_none, errW_some] <;> rfl) | (simp [*, errW_none, errW_some] <;> rfl), by repeat (first | (with_reducible first | exact HB.out | apply below_alloc | apply pw_below_drewN | apply below_drew1 | refine below_set ?_ GE101.out) | exact HB.out)⟩
                      · rw [if_neg c58] at H
                        exact absurd H (by simp)
                    · rw [if_neg c57] at H
                      exact absurd H (by simp)
                  · rw [if_neg c56] at H
                    have c56b0 : decide (x6_2 < a0_0) = false := decide_eq_false c56
                    clear c56
                    by_cases c78 : t136 = 0
                    · rw [if_pos c78] at H
                      have c78b0 : (t136 == 0) = true := beq_iff_eq.mpr c78
                      have c78b1 : (t136 != 0) = false := bne_eq_false_iff_eq.mpr c78
                      clear c78
                      by_cases c79 : (strOfNums t133).toList = (strOfNums l0_2).toList
                      · rw [if_pos c79] at H
                        have c79b0 : ((strOfNums t133).toList == (strOfNums l0_2).toList) = true := beq_iff_eq.mpr c79
                        have c79b1 : ((strOfNums t133).toList != (strOfNums l0_2).toList) = false := bne_eq_false_iff_eq.mpr c79
                        clear c79
                        replace H := Option.bind_eq_some_iff.mp H
                        obtain ⟨t138, A800, H⟩ := H
                        replace H : (some t138) = some r := H
                        have A80 := Aside0.mk A800
                        clear A800
                        obtain rfl := Option.some.inj H
                        have hcz81_0 : wr.cell? ⟨gb101, 0, none⟩ = some (.int .i64 a0_0) := (blk_cell BK101.out 0).trans rfl
                        have hcz81_1 : wr.cell? ⟨gb101, 1, none⟩ = some (.int .i64 a0_1) := (blk_cell BK101.out 1).trans rfl
                        have hcz81_2 : wr.cell? ⟨gb101, 2, none⟩ = some (.slice A0_2 l0_2.length c0_2) := (blk_cell BK101.out 2).trans rfl
                        have hcz81_3 : wr.cell? ⟨gb101, 3, none⟩ = some (.slice A0_3 l0_3.length c0_3) := (blk_cell BK101.out 3).trans rfl
                        have hfz81_0 := blk_frozen BK101.out 0
                        have hfz81_1 := blk_frozen BK101.out 1
                        have hfz81_2 := blk_frozen BK101.out 2
                        have hfz81_3 := blk_frozen BK101.out 3
                        obtain ⟨Ao82, co82, eo82⟩ := Kd.N_slice HO_7.out
                        subst eo82
                        obtain ⟨Ao83, co83, eo83⟩ := Kd.R_slice HO_5.out
                        subst eo83
                        go_wp2_with (first | ((with_reducible refine gate_callee (f := 12) rfl ?_); refine goesL_ (some 88) rfl rfl Tryd.func12 (by kernel_rfl) rfl #[.int .i64 a0_0, .int .i64 a0_1, .int .i64 (l0_2.length : Int), .slice Ao82 x7_2.length co82, .slice Ao83 x5_2.length co83] rfl (by (try simp only [List.map_toArray, List.map_cons, List.map_nil]); first | done | rfl | (simp only [List.length_drop, List.length_take]; rfl)) ?_; (with_reducible refine (stripe_Join.calls k2 a0_0 a0_1 (l0_2.length : Int) _ _ x7_2 _ _ x5_2 t133 t136 _ ?side1 ?side2 ?side3 ?side4 A55.out).mono ?_); (case side1 => repeat (first | exact (Kd.N_reads' HO_7.out).2.2 | (with_reducible refine Kd.C_alloc ?_ _) | (with_reducible refine Kd.C_drewN ?_ _) | (with_reducible refine Kd.C_drew ?_))); (case side2 => exact (Kd.N_reads' HO_7.out).2.1); (case side3 => repeat (first | exact (Kd.R_reads' HO_5.out).2.2 | (with_reducible refine Kd.C_alloc ?_ _) | (with_reducible refine Kd.C_drewN ?_ _) | (with_reducible refine Kd.C_drew ?_))); (case side4 => exact (Kd.R_reads' HO_5.out).2.1); rintro e w84 ⟨v134, rfl, ho0, hb⟩; refine ⟨_, rfl, ?_⟩; have n0_ := Aside0.mk (Kd.N_below (by (with_reducible repeat (first | apply Kd.N_alloc | apply Kd.N_drewN | apply Kd.N_drew)); exact HO_3.out) hb); have n1_ := Aside0.mk (Kd.R_below (by (with_reducible repeat (first | apply Kd.R_alloc | apply Kd.R_drewN | apply Kd.R_drew)); exact HO_5.out) hb); have n2_ := Aside0.mk (Kd.N_below (by (with_reducible repeat (first | apply Kd.N_alloc | apply Kd.N_drewN | apply Kd.N_drew)); exact HO_7.out) hb); have n3_ := Aside0.mk (Kd.V_lower (Kd.V_mono (ok' := fun k_ => some k_ ≠ (.slice Ao17 t102.length co17 : Value).ownBlock ∧ some k_ ≠ (.slice Ao83 x5_2.length co83 : Value).ownBlock ∧ some k_ ≠ (.slice Ao82 x7_2.length co82 : Value).ownBlock ∧ k_ ≠ gb101) ho0 (fun k_ hk_ => ⟨(Kd.fresh' (Kd.N_lt (by (with_reducible repeat (first | apply Kd.N_alloc | apply Kd.N_drewN | apply Kd.N_drew)); exact HO_3.out)) k_ hk_), (Kd.fresh' (Kd.R_lt (by (with_reducible repeat (first | apply Kd.R_alloc | apply Kd.R_drewN | apply Kd.R_drew)); exact HO_5.out)) k_ hk_), (Kd.fresh' (Kd.N_lt (by (with_reducible repeat (first | apply Kd.N_alloc | apply Kd.N_drewN | apply Kd.N_drew)); exact HO_7.out)) k_ hk_), (Kd.freshB (g := gb101) (o := .cells #[.int .i64 a0_0, .int .i64 a0_1, .slice A0_2 l0_2.length c0_2, .slice A0_3 l0_3.length c0_3] 25 (0, 0)) (by (with_reducible repeat (first | refine blk_drewN ?_ _ | refine blk_drew ?_ | refine blk_alloc ?_ _)); exact BK101.out) k_ hk_)⟩)) (below_size (by repeat (first | (with_reducible first | exact HB.out | apply below_alloc | apply pw_below_drewN | apply below_drew1 | refine below_set ?_ GE101.out) | exact HB.out)))); have n4_ := Aside0.mk (blk_below (g := gb101) (o := .cells #[.int .i64 a0_0, .int .i64 a0_1, .slice A0_2 l0_2.length c0_2, .slice A0_3 l0_3.length c0_3] 25 (0, 0)) (by (with_reducible repeat (first | refine blk_drewN ?_ _ | refine blk_drew ?_ | refine blk_alloc ?_ _)); exact BK101.out) hb); have n5_ := Aside0.mk (below_step (by repeat (first | (with_reducible first | exact HB.out | apply below_alloc | apply pw_below_drewN | apply below_drew1 | refine below_set ?_ GE101.out) | exact HB.out)) hb); clear HO_3; clear HO_5; clear HO_7; clear BK101; clear HB; have HO_3 := n0_; have HO_5 := n1_; have HO_7 := n2_; have HO135 := n3_; have BK101 := n4_; have HB := n5_; clear n0_ n1_ n2_ n3_ n4_ n5_; (try clear hb); (try clear hb2); (try clear hk); (try clear hi); (try clear ho0); have hcz85_0 : w84.cell? ⟨gb101, 0, none⟩ = some (.int .i64 a0_0) := (blk_cell BK101.out 0).trans rfl; have hcz85_1 : w84.cell? ⟨gb101, 1, none⟩ = some (.int .i64 a0_1) := (blk_cell BK101.out 1).trans rfl; have hcz85_2 : w84.cell? ⟨gb101, 2, none⟩ = some (.slice A0_2 l0_2.length c0_2) := (blk_cell BK101.out 2).trans rfl; have hcz85_3 : w84.cell? ⟨gb101, 3, none⟩ = some (.slice A0_3 l0_3.length c0_3) := (blk_cell BK101.out 3).trans rfl; have hfz85_0 := blk_frozen BK101.out 0; have hfz85_1 := blk_frozen BK101.out 1; have hfz85_2 := blk_frozen BK101.out 2; have hfz85_3 := blk_frozen BK101.out 3; (first | have hcv86 := own_string (P := Tryd.prog) Tryd.underlying22 Tryd.underlying5 Tryd.underlying9 (Kd.own_of_R HO135.out) | have hcv86 := Kd.V_string (P := Tryd.prog) Tryd.underlying22 Tryd.underlying5 Tryd.underlying9 HO135.out); have hcv87 := Kd.C_string (P := Tryd.prog) (A := A0_2) (c := c0_2) Tryd.underlying22 Tryd.underlying5 Tryd.underlying9 (Kd.C_below HR0_2.out HB.out)) | (go_at_call 11; (with_reducible refine (mooringlaw20_awake.calls k2  t138 _ A80.out).mono ?_); rintro e w88 ⟨rfl, hb⟩; have n0_ := Aside0.mk (Kd.N_below (by (with_reducible repeat (first | apply Kd.N_alloc | apply Kd.N_drewN | apply Kd.N_drew)); exact HO_3.out) hb); have n1_ := Aside0.mk (Kd.R_below (by (with_reducible repeat (first | apply Kd.R_alloc | apply Kd.R_drewN | apply Kd.R_drew)); exact HO_5.out) hb); have n2_ := Aside0.mk (Kd.N_below (by (with_reducible repeat (first | apply Kd.N_alloc | apply Kd.N_drewN | apply Kd.N_drew)); exact HO_7.out) hb); have n3_ := Aside0.mk (Kd.V_below (by (with_reducible repeat (first | apply Kd.V_alloc | apply Kd.V_drewN | apply Kd.V_drew)); exact HO135.out) hb); have n4_ := Aside0.mk (blk_below (g := gb101) (o := .cells #[.int .i64 a0_0, .int .i64 a0_1, .slice A0_2 l0_2.length c0_2, .slice A0_3 l0_3.length c0_3] 25 (0, 0)) (by (with_reducible repeat (first | refine blk_drewN ?_ _ | refine blk_drew ?_ | refine blk_alloc ?_ _)); exact BK101.out) hb); have n5_ := Aside0.mk (below_step (by repeat (first | (with_reducible first | exact HB.out | apply below_alloc | apply pw_below_drewN | apply below_drew1 | refine below_set ?_ GE101.out) | exact HB.out)) hb); clear HO_3; clear HO_5; clear HO_7; clear HO135; clear BK101; clear HB; have HO_3 := n0_; have HO_5 := n1_; have HO_7 := n2_; have HO135 := n3_; have BK101 := n4_; have HB := n5_; clear n0_ n1_ n2_ n3_ n4_ n5_; (try clear hb); (try clear hb2); (try clear hk); (try clear hi)))
                        go_ret
                        exact ⟨by first | rfl | (simp [errW_none, errW_some] <;> rfl) | (simp [*, errW_none, errW_some] <;> rfl), by repeat (first | (with_reducible first | exact HB.out | apply below_alloc | apply pw_below_drewN | apply below_drew1 | refine below_set ?_ GE101.out) | exact HB.out)⟩
                      · rw [if_neg c79] at H
                        exact absurd H (by simp)
                    · rw [if_neg c78] at H
                      exact absurd H (by simp)
          · rw [if_neg c16] at H
            exact absurd H (by simp)
        · rw [if_neg c15] at H
          exact absurd H (by simp)
end Go.Proofs.YtnfgiamdmfkcjaaDoor.P
namespace Go.Proofs.YtnfgiamdmfkcjaaDoor.Red
open Go.RowKit Go.Proofs.YtnfgiamdmfkcjaaDoorW.PrintWords Go.Proofs.YtnfgiamdmfkcjaaDoor.Leaf Go.Proofs.YtnfgiamdmfkcjaaDoor.Gf Go.Proofs.YtnfgiamdmfkcjaaDoor.H Go.Proofs.YtnfgiamdmfkcjaaDoor.Mx Go.Proofs.YtnfgiamdmfkcjaaDoor.P
set_option linter.unusedVariables false
set_option linter.unusedSimpArgs false
theorem code_Decode.f_oM (k m : Int) (hk : -9223372036854775808 ≤ k) (A : Mat) (hr : ∀ i, i < A.length → (row A i).length ≤ 140737488355327) (H : List Bool) : code_Decode.f k m (oM A) H = some (decR k m A H) := by
  unfold code_Decode.f
  rw [if_pos, unM_oM]
  refine ⟨bytes_oM A, hk, ?_⟩
  rw [List.all_eq_true]
  intro x hx
  obtain ⟨r, hr2, rfl⟩ := List.mem_map.1 hx
  obtain ⟨i, hi, rfl⟩ := List.mem_iff_getElem.1 hr2
  have e : row A i = A[i] := by unfold row; rw [List.getD_eq_getElem?_getD, List.getElem?_eq_getElem hi]; rfl
  rw [ofL_length, ← e]
  exact decide_eq_true (hr i hi)
end Go.Proofs.YtnfgiamdmfkcjaaDoor.Red
namespace Go.Proofs.YtnfgiamdmfkcjaaDoor.Red
open Go.RowKit Go.Proofs.YtnfgiamdmfkcjaaDoorW.PrintWords Go.Proofs.YtnfgiamdmfkcjaaDoor.Leaf Go.Proofs.YtnfgiamdmfkcjaaDoor.Gf Go.Proofs.YtnfgiamdmfkcjaaDoor.H Go.Proofs.YtnfgiamdmfkcjaaDoor.Mx Go.Proofs.YtnfgiamdmfkcjaaDoor.P
set_option linter.unusedVariables false
set_option linter.unusedSimpArgs false
theorem row_selM (A : Mat) (H : List Bool) (i : Nat) (hi : i < (selN H H.length).length) : row (selM A H) i = row A ((selN H H.length).getD i 0) := by
  unfold selM
  show ((selN H H.length).map _).getD i [] = _
  rw [List.getD_eq_getElem?_getD, List.getElem?_map, List.getD_eq_getElem?_getD, List.getElem?_eq_getElem hi]
  rfl
theorem row_take3 (A : Mat) (k i : Nat) (hi : i < k) : row (A.take k) i = row A i := by
  unfold row
  rw [List.getD_eq_getElem?_getD, List.getElem?_take_of_lt hi, List.getD_eq_getElem?_getD]
theorem getD_take (l : List Nat) (k i : Nat) (hi : i < k) : (l.take k).getD i 0 = l.getD i 0 := by
  rw [List.getD_eq_getElem?_getD, List.getElem?_take_of_lt hi, List.getD_eq_getElem?_getD]
/-- A product's row is told by the left matrix' row. -/
theorem row_mulM_eq {A A' C : Mat} {n n' m p : Nat} (hA : Reg A n m) (hA' : Reg A' n' m) (hC : Reg C m p) (hm : 0 < m) {i i' : Nat} (hi : i < n) (hi' : i' < n') (h : row A i = row A' i') : row (mulM A C) i = row (mulM A' C) i' := by
  refine ext0 (by rw [(mulM_reg hA hC hm).2 i hi, (mulM_reg hA' hC hm).2 i' hi']) fun j hj => ?_
  rw [(mulM_reg hA hC hm).2 i hi] at hj
  have h1 := el_mulM hA hC hm hi hj
  have h2 := el_mulM hA' hC hm hi' hj
  unfold el at h1 h2
  rw [h1, h2]
  unfold mm
  simp only [h]
theorem cauM_take {k m : Nat} : (cauM k m).take k = idM k := by
  have h1 : Reg ((cauM k m).take k) k k := ⟨by rw [List.length_take, (cauM_reg k m).1]; omega, fun i hi => by rw [row_take3 _ _ _ hi]; exact (cauM_reg k m).2 i (by omega)⟩
  refine mat_ext h1 (matF_reg k k I) fun i j hi hj => ?_
  rw [idM_eq, el_matF I hi hj]
  show at0 (row ((cauM k m).take k) i) j = _
  rw [row_take3 _ _ _ hi]
  show el (cauM k m) i j = _
  unfold cauM
  rw [el_matF (cau k m) (by omega) hj]
  unfold cau
  rw [if_pos hi]
theorem mulM_take {A C : Mat} {n m p k : Nat} (hA : Reg A n m) (hC : Reg C m p) (hm : 0 < m) (hk : k ≤ n) : (mulM A C).take k = mulM (A.take k) C := by
  have hA2 : Reg (A.take k) k m := reg_take hA hk
  refine mat_ext (reg_take (mulM_reg hA hC hm) hk) (mulM_reg hA2 hC hm) fun i j hi hj => ?_
  show at0 (row ((mulM A C).take k) i) j = at0 (row (mulM (A.take k) C) i) j
  rw [row_take3 _ _ _ hi, row_mulM_eq hA hA2 hC hm (by omega) hi (row_take3 _ _ _ hi).symm]
/-- What is decoded out of k shards of one length: a codeword, whose rows at those shards are they. -/
theorem decM_law {k m p : Nat} (hk : 1 ≤ k) (h : k + m ≤ 255) {H : List Bool} (hH : H.length = k + m) (hn : k ≤ (selN H H.length).length) {A : Mat} (hS : Reg (selM A H) (selN H H.length).length p) :
    ∃ Y : Mat, Reg Y k p ∧ decM k m A H = mulM (cauM k m) Y ∧ (decM k m A H).take k = Y ∧ ∀ i, i < k → row (decM k m A H) ((selN H H.length).getD i 0) = row A ((selN H H.length).getD i 0) := by
  obtain ⟨h1, hP, X, hX, hXr, e1, e2⟩ := pic_inverse hk h hH hn
  have hT : Reg ((selM A H).take k) k p := reg_take hS hn
  have hY := mulM_reg hXr hT hk
  refine ⟨mulM X ((selM A H).take k), hY, ?_, ?_, fun i hi => ?_⟩
  · unfold decM
    rw [hX, unM_oM]
  · unfold decM
    rw [hX, unM_oM, mulM_take (cauM_reg k m) hY hk (Nat.le_add_right k m), cauM_take, mulM_id hY hk]
  · have hlt : (selN H H.length).getD i 0 < k + m := by
      have := selN_lt (getD_mem (l := selN H H.length) (i := i) (by omega))
      omega
    unfold decM
    rw [hX, unM_oM]
    have hl : ((selN H H.length).take k).length = k := by rw [List.length_take]; omega
    have e3 : row (picM k m H) i = row (cauM k m) ((selN H H.length).getD i 0) := by
      unfold picM
      rw [row_rowsM _ _ _ (by omega), getD_take _ _ _ hi]
    rw [← row_mulM_eq hP (cauM_reg k m) hY hk hi hlt e3, ← mulM_assoc hP hXr hT hk hk, e1, mulM_id hT hk, row_take3 _ _ _ hi, row_selM _ _ _ (by omega)]
/-- Of a codeword: it itself. -/
theorem decM_code {k m p : Nat} (hk : 1 ≤ k) (h : k + m ≤ 255) {H : List Bool} (hH : H.length = k + m) (hn : k ≤ (selN H H.length).length) {A D : Mat} (hD : Reg D k p) (hA : ∀ i, i < k + m → H.getD i false = true → row A i = row (mulM (cauM k m) D) i) :
    decM k m A H = mulM (cauM k m) D := by
  obtain ⟨h1, hP, X, hX, hXr, e1, e2⟩ := pic_inverse hk h hH hn
  have hlt : ∀ i, i < (selN H H.length).length → (selN H H.length).getD i 0 < k + m ∧ H.getD ((selN H H.length).getD i 0) false = true := fun i hi => by
    have hm := getD_mem (l := selN H H.length) (i := i) hi
    refine ⟨?_, (List.mem_filter.1 hm).2⟩
    have := selN_lt hm
    omega
  have hT : (selM A H).take k = mulM (picM k m H) D := by
    have hC := mulM_reg (cauM_reg k m) hD hk
    have hr : ∀ i, i < k → row ((selM A H).take k) i = row (mulM (picM k m H) D) i := fun i hi => by
      have hl : ((selN H H.length).take k).length = k := by rw [List.length_take]; omega
      have e3 : row (picM k m H) i = row (cauM k m) ((selN H H.length).getD i 0) := by
        unfold picM
        rw [row_rowsM _ _ _ (by omega), getD_take _ _ _ hi]
      have hh := hlt i (by omega)
      rw [row_take3 _ _ _ hi, row_selM _ _ _ (by omega), hA _ hh.1 hh.2, row_mulM_eq hP (cauM_reg k m) hD hk hi hh.1 e3]
    have hR := mulM_reg hP hD hk
    refine mat_ext (n := k) (m := p) ⟨by rw [List.length_take, selM_length]; omega, fun i hi => by rw [hr i hi]; exact hR.2 i hi⟩ hR fun i j hi hj => ?_
    show at0 _ _ = at0 _ _
    rw [hr i hi]
  unfold decM
  rw [hX, unM_oM, hT, ← mulM_assoc hXr hP hD hk hk, e2, mulM_id hD hk]
end Go.Proofs.YtnfgiamdmfkcjaaDoor.Red
namespace Go.Proofs.YtnfgiamdmfkcjaaDoor.Red
open Go.RowKit Go.Proofs.YtnfgiamdmfkcjaaDoorW.PrintWords Go.Proofs.YtnfgiamdmfkcjaaDoor.Leaf Go.Proofs.YtnfgiamdmfkcjaaDoor.Gf Go.Proofs.YtnfgiamdmfkcjaaDoor.H Go.Proofs.YtnfgiamdmfkcjaaDoor.Mx Go.Proofs.YtnfgiamdmfkcjaaDoor.P
set_option linter.unusedVariables false
set_option linter.unusedSimpArgs false
def ixS (k i x : Nat) : Nat := (x / 16 * k + i) * 16 + x % 16
theorem ix_eq (k i x : Nat) (hk : k ≤ 254) (hi : i ≤ 254) (hx : x ≤ 70000) : (wrap64 ((wrap64 ((wrap64 ((wrap64 ((wrap64 (Int.tdiv (x : Int) 16)) * (k : Int))) + (i : Int))) * 16)) + (Int.tmod (x : Int) 16))) = ((ixS k i x : Nat) : Int) := by
  have h1 : x / 16 * k ≤ 70000 * 254 := Nat.mul_le_mul (by omega) hk
  rw [Int.tdiv_eq_ediv_of_nonneg (by omega), Int.tmod_eq_emod_of_nonneg (by omega), w64 ((x : Int) / 16) (by omega) (by omega)]
  have e1 : ((x : Int) / 16) * (k : Int) = ((x / 16 * k : Nat) : Int) := by rw [Int.natCast_mul, Int.natCast_ediv]; rfl
  rw [e1]
  unfold ixS
  generalize x / 16 * k = q at *
  rw [w64 (q : Int) (by omega) (by omega), w64 ((q : Int) + (i : Int)) (by omega) (by omega), w64 (((q : Int) + (i : Int)) * 16) (by omega) (by omega), w64 _ (by omega) (by omega)]
  omega
def rowS (k : Nat) (L : List B) (i : Nat) (n : Nat) : List B := (List.range n).map fun x => at0 L (ixS k i x)
theorem rowS_eq (k n : Nat) (L : List B) (i : Nat) (hn : n % 16 = 0) : rowS k L i n = spR k n L i (n / 16) := by
  unfold rowS spR
  refine List.map_congr_left fun x hx => ?_
  rw [if_pos (by have := List.mem_range.1 hx; omega)]
  rfl
theorem split_l1 (k n : Nat) (L : List B) (hL : L.length ≤ 4096) (hk : k ≤ 254) (hn : n ≤ 70000) (hn16 : n % 16 = 0) (b : Int) (r : List (List Int) × Int) (i : Nat) (hi : i < k) (X : List (List Int)) (hX : X.length ≤ 255)
    (hnext : Ev (fun f => mooringref20_Split.l0 f (k : Int) b (ofL L) (n : Int) (X ++ [ofL (spR k n L i (n / 16))]) ((i + 1 : Nat) : Int)) r) (d : Nat) : ∀ x : Nat, x + d = n →
    Ev (fun f => mooringref20_Split.l1 f (k : Int) b (ofL L) (n : Int) X (i : Int) (ofL (rowS k L i x)) (x : Int)) r := by
  induction d with
  | zero =>
    intro x hx
    obtain rfl : x = n := by omega
    refine Ev.step (f := fun f => mooringref20_Split.l0 f (k : Int) b (ofL L) (x : Int) (X ++ [ofL (spR k x L i (x / 16))]) ((i + 1 : Nat) : Int)) (fun f => ?_) hnext
    simp only [mooringref20_Split.l1]
    rw [if_neg (by omega), if_pos (by omega), rowS_eq k x L i hn16, w64 _ (by omega) (by omega)]
    rfl
  | succ d ih =>
    intro x hx
    refine Ev.step (f := fun f => mooringref20_Split.l1 f (k : Int) b (ofL L) (n : Int) X (i : Int) (ofL (rowS k L i (x + 1))) ((x + 1 : Nat) : Int)) (fun f => ?_) (ih (x + 1) (by omega))
    have hl : (rowS k L i x).length = x := by simp [rowS]
    have e : ofL (rowS k L i x) ++ [ofB (at0 L (ixS k i x))] = ofL (rowS k L i (x + 1)) := by
      unfold rowS
      rw [List.range_succ, List.map_append]
      unfold ofL
      rw [List.map_append]
      rfl
    simp only [mooringref20_Split.l1, ix_eq k i x hk (by omega) (by omega), ofL_length, hl, rd_ofL]
    rw [if_pos (by omega), w64 ((x : Int) + 1) (by omega) (by omega)]
    by_cases h : ixS k i x < L.length
    · rw [if_pos (by omega), if_pos (by omega), if_pos (by omega), e]
      rfl
    · rw [if_neg (by omega), if_pos (by omega)]
      have : (0 : Int) = ofB (at0 L (ixS k i x)) := by rw [at0_out _ _ (by omega)]; rfl
      rw [this, e]
      rfl
theorem split_l0 (k n : Nat) (L : List B) (hL : L.length ≤ 4096) (hk : k ≤ 254) (hn : n ≤ 70000) (hn16 : n % 16 = 0) (b : Int) (d : Nat) : ∀ i : Nat, i + d = k →
    Ev (fun f => mooringref20_Split.l0 f (k : Int) b (ofL L) (n : Int) (rowsTo k n L i) (i : Int)) (encR (k : Int) b (spM k n L)) := by
  induction d with
  | zero =>
    intro i hi
    obtain rfl : i = k := by omega
    refine Ev.step (f := fun f => (mooringref03_Encode.f f (i : Int) b (oM (spM i n L))).bind fun bt107 => some (bt107.1, bt107.2)) (fun f => ?_) ?_
    · simp only [mooringref20_Split.l0]
      rw [if_neg (by omega), rowsTo_all]
    · refine Ev.bind (evRefEncode (i : Int) b (by omega) (spM i n L) (by rw [(spM_reg i n L).1]; omega) (fun j hj => by rw [(spM_reg i n L).1] at hj; rw [(spM_reg i n L).2 j hj]; omega)) ?_
      exact Ev.now _
  | succ d ih =>
    intro i hi
    refine Ev.step (f := fun f => mooringref20_Split.l1 f (k : Int) b (ofL L) (n : Int) (rowsTo k n L i) (i : Int) (ofL (rowS k L i 0)) ((0 : Nat) : Int)) (fun f => ?_) (split_l1 k n L hL hk hn hn16 b _ i (by omega) _ (by rw [rowsTo_length]; omega) (by rw [rowsTo_next]; exact ih (i + 1) (by omega)) n 0 (by omega))
    simp only [mooringref20_Split.l0]
    rw [if_pos (by omega)]
    rfl
theorem evRefSplit (a b : Int) (ha : -9223372036854775808 ≤ a) (L : List B) (hL : L.length ≤ 9223372036854775807) : Ev (fun f => mooringref20_Split.f f a b (ofL L)) (splR a b L) := by
  unfold mooringref20_Split.f splR
  simp only [code_eq a b ha, Option.bind_some]
  cases h1 : codeB a b with
  | false =>
    simp only [Bool.false_eq_true, if_false]
    exact Ev.now _
  | true =>
    obtain ⟨k, m, rfl, rfl, hk, hm, hkm⟩ := code_form h1
    simp only [if_true, ofL_length, Int.toNat_natCast]
    refine Ev.bind (evRefLength (k : Int) (L.length : Int)) ?_
    unfold lenR
    rw [if_pos (by omega)]
    by_cases h2 : L.length > 4096
    · rw [if_pos (by omega), if_pos h2]
      simp only [show ((3 : Int) = 0) = False from eq_false (by decide), if_false]
      exact Ev.now _
    · rw [if_neg (by omega), if_neg h2]
      simp only [if_true, Int.toNat_natCast]
      have hle := nS_le k L.length (by omega)
      exact split_l0 k (lenS k L.length) L (by omega) (by omega) (by unfold lenS; omega) (by unfold lenS; omega) (m : Int) k 0 (by omega)
/-- What Split tells, where it tells shards. -/
theorem splR_yes {k m : Nat} (hk : 1 ≤ k) (hm : 1 ≤ m) (hkm : k + m ≤ 255) (L : List B) (hL : L.length ≤ 4096) : splR (k : Int) (m : Int) L = (oM (mulM (cauM k m) (spM k (lenS k L.length) L)), 0) ∧ Reg (mulM (cauM k m) (spM k (lenS k L.length) L)) (k + m) (lenS k L.length) := by
  have hc : codeB (k : Int) (m : Int) = true := by unfold codeB; simp; omega
  have hD := spM_reg k (lenS k L.length) L
  refine ⟨?_, mulM_reg (cauM_reg k m) hD (by omega)⟩
  unfold splR encR
  rw [if_pos hc, if_neg (by omega), Int.toNat_natCast, Int.toNat_natCast, if_pos ⟨hc, (evenB_iff _ k).2 (by rw [hD.2 0 (by omega)]; exact hD)⟩]
theorem evAwake20 : Ev (fun k => mooringlaw20_awake.f k) true := by
  unfold mooringlaw20_awake.f
  simp only [show (20 ≤ 281474976710656) = True from eq_true (by decide), if_true]
  have e : (List.replicate 20 (0 : Int)) = ofL (List.replicate 20 0#8) := ofL_replicate 20
  rw [e]
  obtain ⟨h1, h2⟩ := splR_yes (k := 2) (m := 1) (by omega) (by omega) (by omega) (List.replicate 20 0#8) (by decide)
  have hf : stripe_Split.f 2 1 (ofL (List.replicate 20 0#8)) = some (splR ((2 : Nat) : Int) ((1 : Nat) : Int) (List.replicate 20 0#8)) := stripe_Split.f_ofL 2 1 (by decide) _
  rw [hf, h1]
  simp only [Option.bind_some]
  refine Ev.bind (evLength 2 33) ?_
  have e2 : lenR 2 33 = (32, 0) := by decide +kernel
  have hr0 := h2.2 0 (by omega)
  rw [show lenS 2 (List.replicate 20 0#8).length = 16 by decide +kernel] at h2 hr0 ⊢
  rw [e2]
  simp only [oM_length, h2.1, rd_oM0, ofL_length, hr0]
  exact Ev.now _
theorem light20 (a b : Int) (ha : -9223372036854775808 ≤ a) : ∃ x, mooringlaw20_light.f a b = some x := by
  unfold mooringlaw20_light.f
  rw [code_eq a b ha, Option.bind_some]
  cases codeB a b with
  | false => exact ⟨true, rfl⟩
  | true => exact ⟨_, rfl⟩
end Go.Proofs.YtnfgiamdmfkcjaaDoor.Red
namespace Go.Proofs.YtnfgiamdmfkcjaaDoor.Pure
open Go.RowKit Go.Proofs.YtnfgiamdmfkcjaaDoorW.PrintWords Go.Proofs.YtnfgiamdmfkcjaaDoor.Leaf Go.Proofs.YtnfgiamdmfkcjaaDoor.P Go.Proofs.YtnfgiamdmfkcjaaDoor.Gf Go.Proofs.YtnfgiamdmfkcjaaDoor.Red Go.Proofs.YtnfgiamdmfkcjaaDoor.H Go.Proofs.YtnfgiamdmfkcjaaDoor.Mx
set_option linter.unusedSimpArgs false
set_option linter.unusedVariables false
theorem rdB (H : List Bool) (i : Nat) : rdOf false H (i : Int) = H.getD i false := rfl
/-- The shards that one has are of one length. -/
def EvA (A : Mat) (H : List Bool) : Prop := ∀ u v, u ∈ selN H H.length → v ∈ selN H H.length → (row A u).length = (row A v).length
theorem evD_iff {A : Mat} {H : List Bool} (h0 : 0 < (selM A H).length) : evD A H = true ↔ EvA A H := by
  have hl := selM_length A H
  have e : evD A H = evenB (selM A H) ((selM A H).length : Int) := by
    unfold evD
    rw [code_even_eq _ _ (by omega)]
    rfl
  rw [e, evenB_iff]
  constructor
  · intro h u v hu hv
    obtain ⟨i, hi, rfl⟩ := List.mem_iff_getElem.1 hu
    obtain ⟨j, hj, rfl⟩ := List.mem_iff_getElem.1 hv
    have h1 := h.2 i (by omega)
    have h2 := h.2 j (by omega)
    rw [row_selM _ _ _ hi, List.getD_eq_getElem?_getD, List.getElem?_eq_getElem hi] at h1
    rw [row_selM _ _ _ hj, List.getD_eq_getElem?_getD, List.getElem?_eq_getElem hj] at h2
    exact h1.trans h2.symm
  · intro h
    refine ⟨rfl, fun i hi => ?_⟩
    rw [row_selM _ _ _ (by omega), row_selM _ _ _ (by omega)]
    exact h _ _ (getD_mem (by omega)) (getD_mem (by omega))
def Zs (T : List B) : Prop := ∀ x ∈ T, x = 0#8
theorem ofL_take (T : List B) (n : Nat) : (ofL T).take n = ofL (T.take n) := by unfold ofL; rw [List.map_take]
theorem ofL_drop (T : List B) (n : Nat) : (ofL T).drop n = ofL (T.drop n) := by unfold ofL; rw [List.map_drop]
theorem ofL_append (T U : List B) : ofL T ++ ofL U = ofL (T ++ U) := by unfold ofL; rw [List.map_append]
theorem zs_take_last (T : List B) (n : Nat) (hn : T.length = n + 1) (h : at0 T n = 0#8) : Zs T ↔ Zs (T.take n) := by
  constructor
  · exact fun hz x hx => hz x (List.mem_of_mem_take hx)
  · intro hz x hx
    obtain ⟨i, hi, rfl⟩ := List.mem_iff_getElem.1 hx
    by_cases e : i = n
    · subst e
      unfold at0 at h
      rw [List.getD_eq_getElem?_getD, List.getElem?_eq_getElem hi] at h
      exact h
    · exact hz _ (List.mem_iff_getElem.2 ⟨i, by rw [List.length_take]; omega, by rw [List.getElem_take]⟩)
theorem trimR_l0 (n : Nat) : ∀ T : List B, T.length = n → n ≤ 140737488355327 → ∃ U : List B, Ev (fun k => bytes_trimRightByte.l0 k (ofL T) 0) (ofL U) ∧ U.length ≤ n ∧ (Zs T ↔ Zs U) := by
  induction n with
  | zero =>
    intro T hT _
    refine ⟨T, Ev.step (f := fun _ => some (ofL T)) (fun k => ?_) (Ev.now _), by omega, Iff.rfl⟩
    simp only [bytes_trimRightByte.l0]
    rw [if_neg (by rw [ofL_length]; omega)]
  | succ n ih =>
    intro T hT hn
    have hw : wrap64 ((T.length : Int) - 1) = (n : Int) := by rw [w64 _ (by omega) (by omega)]; omega
    by_cases h : at0 T n = 0#8
    · obtain ⟨U, hU, hl, hz⟩ := ih (T.take n) (by rw [List.length_take]; omega) (by omega)
      refine ⟨U, Ev.step (fun k => ?_) hU, by omega, (zs_take_last T n hT h).trans hz⟩
      simp only [bytes_trimRightByte.l0, ofL_length, hw]
      rw [if_pos (by omega), if_pos (by omega), if_pos (by omega), rd_ofL, h, if_pos ofB_zero, if_pos (by omega), Int.toNat_natCast, ofL_take]
    · refine ⟨T, Ev.step (f := fun _ => some (ofL T)) (fun k => ?_) (Ev.now _), by omega, Iff.rfl⟩
      simp only [bytes_trimRightByte.l0, ofL_length, hw]
      rw [if_pos (by omega), if_pos (by omega), if_pos (by omega), rd_ofL, if_neg (fun e => h ((ofB_eq_zero _).1 e))]
theorem trimL_l0 (n : Nat) : ∀ T : List B, T.length = n → ∃ U : List B, Ev (fun k => bytes_trimLeftByte.l0 k (ofL T) 0) (ofL U) ∧ (U = [] ↔ Zs T) := by
  induction n with
  | zero =>
    intro T hT
    obtain rfl : T = [] := List.length_eq_zero_iff.1 hT
    refine ⟨[], Ev.step (f := fun _ => some []) (fun k => ?_) (Ev.now _), ⟨fun _ x hx => absurd hx List.not_mem_nil, fun _ => rfl⟩⟩
    simp only [bytes_trimLeftByte.l0]
    rfl
  | succ n ih =>
    intro T hT
    match T, hT with
    | c :: T', hT =>
      have hT' : T'.length = n := by simpa using hT
      by_cases h : c = 0#8
      · obtain ⟨U, hU, hz⟩ := ih T' hT'
        refine ⟨U, Ev.step (fun k => ?_) hU, hz.trans ⟨fun h' x hx => ?_, fun h' x hx => h' x (List.mem_cons_of_mem _ hx)⟩⟩
        · simp only [bytes_trimLeftByte.l0, ofL_length]
          rw [if_pos (by omega), if_pos (by omega), if_pos (by subst h; rfl), if_pos (by omega), ofL_drop]
          rfl
        · rcases List.mem_cons.1 hx with rfl | hx
          · exact h
          · exact h' x hx
      · refine ⟨c :: T', Ev.step (f := fun _ => some (ofL (c :: T'))) (fun k => ?_) (Ev.now _), ⟨fun e => (List.cons_ne_nil _ _ e).elim, fun hz => absurd (hz c List.mem_cons_self) h⟩⟩
        simp only [bytes_trimLeftByte.l0, ofL_length]
        rw [if_pos (by omega), if_pos (by omega), if_neg (show ¬ rd (ofL (c :: T')) 0 = 0 from fun e => h ((ofB_eq_zero _).1 e)), if_neg (by omega)]
theorem evTrim (T : List B) (hT : T.length ≤ 140737488355327) : ∃ V : List B, Ev (fun k => bytes_Trim.f k (ofL T) (⟨#[0]⟩ : ByteArray)) (ofL V) ∧ (V = [] ↔ Zs T) := by
  by_cases h0 : T.length = 0
  · obtain rfl : T = [] := List.length_eq_zero_iff.1 h0
    exact ⟨[], Ev.congr (f := fun _ => some []) (fun k => rfl) (Ev.now _), ⟨fun _ x hx => absurd hx List.not_mem_nil, fun _ => rfl⟩⟩
  · obtain ⟨U, hU, hl, hz⟩ := trimR_l0 T.length T rfl hT
    obtain ⟨V, hV, hz2⟩ := trimL_l0 U.length U rfl
    refine ⟨V, Ev.congr (f := fun k => (bytes_trimRightByte.l0 k (ofL T) 0).bind fun t => bytes_trimLeftByte.l0 k t 0) (fun k => ?_) (Ev.bind hU hV), hz2.trans hz.symm⟩
    unfold bytes_Trim.f bytes_trimRightByte.f bytes_trimLeftByte.f
    rw [if_pos rfl, if_neg (by rw [ofL_length]; exact h0)]
def chunk (D : Mat) (s i : Nat) : List B := ((row D i).take ((s + 1) * 16)).drop (s * 16)
def blkJ (D : Mat) (s k : Nat) : List B := (List.range k).flatMap (chunk D s)
def joinB (D : Mat) (k S : Nat) : List B := (List.range S).flatMap fun s => blkJ D s k
theorem chunk_length {D : Mat} {k p s i : Nat} (hD : ∀ j, j < k → (row D j).length = p) (hs : (s + 1) * 16 ≤ p) (hi : i < k) : (chunk D s i).length = 16 := by
  unfold chunk
  rw [List.length_drop, List.length_take, hD i hi]
  omega
theorem blkJ_succ (D : Mat) (s i : Nat) : blkJ D s (i + 1) = blkJ D s i ++ chunk D s i := by
  unfold blkJ
  rw [List.range_succ, List.flatMap_append]
  simp
theorem joinB_succ (D : Mat) (k S : Nat) : joinB D k (S + 1) = joinB D k S ++ blkJ D S k := by
  unfold joinB
  rw [List.range_succ, List.flatMap_append]
  simp
theorem blkJ_length {D : Mat} {k p s : Nat} (hD : ∀ j, j < k → (row D j).length = p) (hs : (s + 1) * 16 ≤ p) : ∀ i, i ≤ k → (blkJ D s i).length = i * 16 := by
  intro i
  induction i with
  | zero => intro _; rfl
  | succ i ih =>
    intro hi
    rw [blkJ_succ, List.length_append, ih (by omega), chunk_length hD hs (by omega)]
    omega
theorem joinB_length {D : Mat} {k p : Nat} (hD : ∀ j, j < k → (row D j).length = p) : ∀ S, S * 16 ≤ p → (joinB D k S).length = S * (k * 16) := by
  intro S
  induction S with
  | zero => intro _; simp [joinB]
  | succ S ih =>
    intro hS
    rw [joinB_succ, List.length_append, ih (by omega), blkJ_length hD hS k (Nat.le_refl _), Nat.succ_mul]
theorem at0_append (L M : List B) (y : Nat) : at0 (L ++ M) y = if y < L.length then at0 L y else at0 M (y - L.length) := by
  unfold at0
  rw [List.getD_eq_getElem?_getD, List.getElem?_append, List.getD_eq_getElem?_getD, List.getD_eq_getElem?_getD]
  split <;> rfl
theorem at0_chunk {D : Mat} {k p s i : Nat} (hD : ∀ j, j < k → (row D j).length = p) (hs : (s + 1) * 16 ≤ p) (hi : i < k) (z : Nat) (hz : z < 16) : at0 (chunk D s i) z = at0 (row D i) (s * 16 + z) := by
  unfold chunk at0
  rw [List.getD_eq_getElem?_getD, List.getElem?_drop, List.getElem?_take_of_lt (by omega), List.getD_eq_getElem?_getD]
theorem at0_blkJ {D : Mat} {k p s : Nat} (hD : ∀ j, j < k → (row D j).length = p) (hs : (s + 1) * 16 ≤ p) : ∀ i, i ≤ k → ∀ y, y < i * 16 → at0 (blkJ D s i) y = at0 (row D (y / 16)) (s * 16 + y % 16) := by
  intro i
  induction i with
  | zero => intro _ y hy; omega
  | succ i ih =>
    intro hi y hy
    rw [blkJ_succ, at0_append, blkJ_length hD hs i (by omega)]
    by_cases h : y < i * 16
    · rw [if_pos h]
      exact ih (by omega) y h
    · rw [if_neg h, at0_chunk hD hs (by omega) _ (by omega), show y / 16 = i by omega, show y - i * 16 = y % 16 by omega]
theorem at0_joinB {D : Mat} {k p : Nat} (hk : 0 < k) (hD : ∀ j, j < k → (row D j).length = p) : ∀ S, S * 16 ≤ p → ∀ y, y < S * (k * 16) → at0 (joinB D k S) y = at0 (row D (y / 16 % k)) (y / 16 / k * 16 + y % 16) := by
  intro S
  induction S with
  | zero => intro _ y hy; omega
  | succ S ih =>
    intro hS y hy
    rw [joinB_succ, at0_append, joinB_length hD S (by omega)]
    by_cases h : y < S * (k * 16)
    · rw [if_pos h]
      exact ih (by omega) y h
    · rw [if_neg h]
      have e1 : S * (k * 16) = 16 * (k * S) := by rw [Nat.mul_comm k 16, ← Nat.mul_assoc, Nat.mul_comm S 16, Nat.mul_assoc, Nat.mul_comm S k]
      have hlt : y - S * (k * 16) < k * 16 := by rw [Nat.succ_mul] at hy; omega
      rw [at0_blkJ hD hS k (Nat.le_refl _) _ hlt]
      have e2 : (y - S * (k * 16)) / 16 = y / 16 - k * S := by omega
      have e3 : (y - S * (k * 16)) % 16 = y % 16 := by omega
      have e4 : k * S ≤ y / 16 := by omega
      have e5 : y / 16 - k * S < k := by omega
      have e6 : y / 16 % k = y / 16 - k * S := by
        have : y / 16 = (y / 16 - k * S) + k * S := by omega
        rw [this, Nat.add_mul_mod_self_left, Nat.mod_eq_of_lt e5]
        omega
      have e7 : y / 16 / k = S := by
        have : y / 16 = (y / 16 - k * S) + k * S := by omega
        rw [this, Nat.add_mul_div_left _ _ hk, Nat.div_eq_of_lt e5, Nat.zero_add]
      rw [e2, e3, e6, e7]
end Go.Proofs.YtnfgiamdmfkcjaaDoor.Pure
namespace Go.Proofs.YtnfgiamdmfkcjaaDoor.Pure
open Go.RowKit Go.Proofs.YtnfgiamdmfkcjaaDoorW.PrintWords Go.Proofs.YtnfgiamdmfkcjaaDoor.Leaf Go.Proofs.YtnfgiamdmfkcjaaDoor.P Go.Proofs.YtnfgiamdmfkcjaaDoor.Gf Go.Proofs.YtnfgiamdmfkcjaaDoor.Red Go.Proofs.YtnfgiamdmfkcjaaDoor.H Go.Proofs.YtnfgiamdmfkcjaaDoor.Mx
set_option linter.unusedSimpArgs false
set_option linter.unusedVariables false
instance (T : List B) : Decidable (Zs T) := inferInstanceAs (Decidable (∀ x ∈ T, x = 0#8))
/-- What Join makes of the units put together. -/
def finJ (n : Nat) (J : List B) : List Int × Int := if Zs (J.drop n) then (ofL (J.take n), 0) else ([], 8)
theorem join_l2 {D : Mat} {k p : Nat} (hk : k ≤ 255) (hl : k ≤ D.length) (hD : ∀ j, j < k → (row D j).length = p) (hp : p ≤ 70000) (n : Int) (r : List Int × Int) (s S : Nat) (hs : (s + 1) * 16 ≤ p) (J : List B) (hJ : J.length ≤ 20000000)
    (hnext : Ev (fun f => stripe_Join.l1 f (k : Int) n (oM D) (ofL (J ++ blkJ D s k)) (S : Int) ((s + 1 : Nat) : Int)) r) (d : Nat) : ∀ i : Nat, i + d = k →
    Ev (fun f => stripe_Join.l2 f (k : Int) n (oM D) (ofL (J ++ blkJ D s i)) (s : Int) (S : Int) (s : Int) (k : Int) (i : Int)) r := by
  have w1 : wrap64 ((s : Int) * 16) = ((s * 16 : Nat) : Int) := by rw [w64 _ (by omega) (by omega)]; omega
  have w2 : wrap64 ((s : Int) + 1) = ((s + 1 : Nat) : Int) := by rw [w64 _ (by omega) (by omega)]; omega
  have w3 : wrap64 (((s + 1 : Nat) : Int) * 16) = (((s + 1) * 16 : Nat) : Int) := by rw [w64 _ (by omega) (by omega)]; omega
  induction d with
  | zero =>
    intro i hi
    obtain rfl : i = k := by omega
    refine Ev.step (fun f => ?_) hnext
    simp only [stripe_Join.l2, w2]
    rw [if_neg (by omega)]
  | succ d ih =>
    intro i hi
    have hb := blkJ_length hD hs i (by omega)
    have hc := chunk_length hD hs (show i < k by omega)
    have hn := ih (i + 1) (by omega)
    refine Ev.step (fun f => ?_) hn
    simp only [stripe_Join.l2, w1, w2, w3, rd_oM, ofL_length, oM_length]
    rw [if_pos (by omega), if_pos (by omega), if_pos (by omega), if_pos (by omega), if_pos (by omega), if_pos (by rw [hD i (by omega)]; omega), Option.bind_some, Int.toNat_natCast, Int.toNat_natCast, ofL_take, ofL_drop]
    rw [show ((row D i).take ((s + 1) * 16)).drop (s * 16) = chunk D s i from rfl, if_pos (by rw [ofL_length, hc, List.length_append, hb]; omega), ofL_append, List.append_assoc, ← blkJ_succ, w64 ((i : Int) + 1) (by omega) (by omega)]
    rfl
theorem join_l1 {D : Mat} {k p : Nat} (hk : k ≤ 255) (hl : k ≤ D.length) (hD : ∀ j, j < k → (row D j).length = p) (hp : p ≤ 70000) (n : Nat) (S : Nat) (hS : S * 16 = p) (hn : n ≤ S * (k * 16)) (d : Nat) : ∀ s : Nat, s + d = S →
    Ev (fun f => stripe_Join.l1 f (k : Int) (n : Int) (oM D) (ofL (joinB D k s)) (S : Int) (s : Int)) (finJ n (joinB D k S)) := by
  induction d with
  | zero =>
    intro s hs
    obtain rfl : s = S := by omega
    have hJ := joinB_length hD s (by omega)
    obtain ⟨V, hV, hz⟩ := evTrim ((joinB D k s).drop n) (by
      rw [List.length_drop, hJ]
      have : s * (k * 16) ≤ 70000 * 255 := by
        calc s * (k * 16) = s * 16 * k := by rw [Nat.mul_comm k 16, Nat.mul_assoc]
          _ ≤ 70000 * 255 := Nat.mul_le_mul (by omega) hk
      omega)
    refine Ev.step (f := fun f => (bytes_Trim.f f (ofL ((joinB D k s).drop n)) (⟨#[0]⟩ : ByteArray)).bind fun t115 => (if (t115.length : Int) > 0 then (some (([] : List Int), 8)) else (some (ofL ((joinB D k s).take n), 0)))) (fun f => ?_) ?_
    · simp only [stripe_Join.l1]
      rw [if_neg (by omega), if_pos (by omega), if_pos (by rw [ofL_length, hJ]; omega), Int.toNat_natCast, ofL_drop, ofL_take]
    · refine Ev.bind hV ?_
      unfold finJ
      by_cases h : Zs ((joinB D k s).drop n)
      · rw [if_pos h, hz.2 h]
        exact Ev.now _
      · rw [if_neg h]
        have h0 : 0 < V.length := Nat.pos_of_ne_zero fun e => h (hz.1 (List.length_eq_zero_iff.1 e))
        simp only [show ((ofL V).length : Int) > 0 from by rw [ofL_length]; omega, if_true]
        exact Ev.now _
  | succ d ih =>
    intro s hs
    have hJ := joinB_length hD s (by omega)
    have hb : s * (k * 16) ≤ 20000000 := by
      have : s * (k * 16) ≤ 70000 * 255 := by
        calc s * (k * 16) = s * 16 * k := by rw [Nat.mul_comm k 16, Nat.mul_assoc]
          _ ≤ 70000 * 255 := Nat.mul_le_mul (by omega) hk
      omega
    have hnx := ih (s + 1) (by omega)
    rw [joinB_succ] at hnx
    have h2 := join_l2 hk hl hD hp (n : Int) (finJ n (joinB D k S)) s S (by omega) (joinB D k s) (by rw [hJ]; exact hb) hnx k 0 (by omega)
    refine Ev.step (fun f => ?_) h2
    simp only [stripe_Join.l1]
    rw [if_pos (by omega), show blkJ D s 0 = [] from rfl, List.append_nil]
    rfl
/-- The shards that one has are p bytes long. -/
def okLen (S : Mat) (H : List Bool) (p : Nat) : Prop := ∀ i, i < H.length → H.getD i false = true → (row S i).length = p
theorem join_l0 (a b n : Int) (S : Mat) (H : List Bool) (hSH : S.length = H.length) (hH : H.length ≤ 140737488351232) (p : Nat) (r : List Int × Int)
    (hgood : okLen S H p → Ev (fun f => (code_Decode.f a b (oM S) H).bind fun bt106 => (if bt106.2 = 0 then (stripe_Join.l1 f a n bt106.1 ([] : List Int) (wrap64 (Int.tdiv (p : Int) 16)) 0) else (some (([] : List Int), bt106.2)))) r)
    (hbad : ¬ okLen S H p → r = ([], 8)) (d : Nat) : ∀ i : Nat, i + d = H.length → (∀ j, j < i → H.getD j false = true → (row S j).length = p) →
    Ev (fun f => stripe_Join.l0 f a b n (oM S) H (p : Int) H (H.length : Int) (i : Int)) r := by
  induction d with
  | zero =>
    intro i hi hok
    obtain rfl : i = H.length := by omega
    refine Ev.step (fun f => ?_) (hgood hok)
    simp only [stripe_Join.l0]
    rw [if_neg (by omega)]
  | succ d ih =>
    intro i hi hok
    have wi : wrap64 ((i : Int) + 1) = ((i + 1 : Nat) : Int) := w64 _ (by omega) (by omega)
    by_cases h : H.getD i false = true
    · by_cases hl : (row S i).length = p
      · refine Ev.step (fun f => ?_) (ih (i + 1) (by omega) (fun j hj hb => by
          by_cases e : j = i
          · subst e; exact hl
          · exact hok j (by omega) hb))
        simp only [stripe_Join.l0]
        rw [if_pos (by omega), if_pos (by omega), if_pos (by omega), rdB, if_pos h, if_pos (by rw [oM_length]; omega), rd_oM, ofL_length, if_pos (by omega), wi]
      · rw [hbad (fun ho => hl (ho i (by omega) h))]
        refine Ev.step (f := fun _ => some ([], 8)) (fun f => ?_) (Ev.now _)
        simp only [stripe_Join.l0]
        rw [if_pos (by omega), if_pos (by omega), if_pos (by omega), rdB, if_pos h, if_pos (by rw [oM_length]; omega), rd_oM, ofL_length, if_neg (by omega)]
    · refine Ev.step (fun f => ?_) (ih (i + 1) (by omega) (fun j hj hb => by
        by_cases e : j = i
        · subst e; exact absurd hb h
        · exact hok j (by omega) hb))
      simp only [stripe_Join.l0]
      rw [if_pos (by omega), if_pos (by omega), if_pos (by omega), rdB, if_neg h, wi]
theorem okLen_EvA {S : Mat} {H : List Bool} {p : Nat} (h : okLen S H p) : EvA S H := fun u v hu hv => by
  rw [h u (selN_lt hu) (List.mem_filter.1 hu).2, h v (selN_lt hv) (List.mem_filter.1 hv).2]
theorem decR_okLen {k m p : Nat} (hc : codeB (k : Int) (m : Int) = true) {S : Mat} {H : List Bool} (hS : S.length = k + m) (hH : H.length = k + m) (h : okLen S H p) :
    decR (k : Int) (m : Int) S H = if ((selN H H.length).length : Int) < (k : Int) then ([], 4) else (oM (decM k m S H), 0) := by
  unfold decR
  rw [if_pos ⟨hc, by omega, by omega⟩, if_neg, Int.toNat_natCast, Int.toNat_natCast, selM_length]
  rintro ⟨h2, h3⟩
  rw [(evD_iff h2).2 (okLen_EvA h)] at h3
  cases h3
open Classical in
/-- What Join answers. -/
noncomputable def joinR (a b n : Int) (S : Mat) (H : List Bool) : List Int × Int :=
  if codeB a b = true ∧ 0 ≤ n ∧ (S.length : Int) = a + b ∧ (H.length : Int) = a + b then
    (if n > 4096 then ([], 3) else if okLen S H (lenS a.toNat n.toNat) then
      (if ((selN H H.length).length : Int) < a then ([], 4) else finJ n.toNat (joinB (decM a.toNat b.toNat S H) a.toNat (nS a.toNat n.toNat))) else ([], 8))
  else ([], 1)
theorem evJoin (a b n : Int) (ha : -9223372036854775808 ≤ a) (S : Mat) (hr : ∀ i, i < S.length → (row S i).length ≤ 140737488355327) (H : List Bool) : Ev (fun f => stripe_Join.f f a b n (oM S) H) (joinR a b n S H) := by
  have no : Ev (fun f => stripe_Join.j0 f a b n (oM S) H true) (([] : List Int), (1 : Int)) := Ev.step (f := fun _ => some ([], 1)) (fun f => by simp only [stripe_Join.j0, if_true]) (Ev.now _)
  unfold stripe_Join.f joinR
  simp only [is_eq, Option.bind_some]
  rcases codeB_form a b with ⟨h1, k, m, rfl, rfl, hk, hm, h, e⟩ | ⟨h1, e⟩
  · have hw : wrap64 ((k : Int) + (m : Int)) = (k : Int) + (m : Int) := w64 _ (by omega) (by omega)
    simp only [h1, if_true, hw, oM_length, true_and]
    by_cases h2 : n < 0
    · rw [if_neg (fun hh => absurd hh.1 (by omega))]
      simp only [if_pos h2]
      exact no
    · simp only [if_neg h2]
      by_cases h3 : (S.length : Int) = (k : Int) + (m : Int)
      · simp only [if_pos h3]
        by_cases h4 : (H.length : Int) = (k : Int) + (m : Int)
        · rw [show ((H.length : Int) != (k : Int) + (m : Int)) = false from bne_eq_false_iff_eq.mpr h4, if_pos ⟨by omega, h3, h4⟩]
          obtain ⟨n, rfl⟩ := Int.eq_ofNat_of_zero_le (show 0 ≤ n by omega)
          simp only [Int.toNat_natCast]
          refine Ev.step (f := fun f => (stripe_Length.f f (k : Int) (n : Int)).bind fun bt102 => (if bt102.2 = 0 then (stripe_Join.l0 f (k : Int) (m : Int) (n : Int) (oM S) H bt102.1 H (H.length : Int) 0) else (some (([] : List Int), bt102.2)))) (fun f => by simp only [stripe_Join.j0, Bool.false_eq_true, if_false]) ?_
          refine Ev.bind (evLength (k : Int) (n : Int)) ?_
          unfold lenR
          rw [if_pos (by omega)]
          by_cases h5 : (n : Int) > 4096
          · simp only [if_pos h5, show ((3 : Int) = 0) = False from eq_false (by decide), if_false]
            exact Ev.now _
          · simp only [if_neg h5, if_true, Int.toNat_natCast]
            have hn1 := nS_le k n hk
            have hn2 := (nS_spec k n hk).1
            refine join_l0 (k : Int) (m : Int) (n : Int) S H (by omega) (by omega) (lenS k n) _ (fun hok => ?_) (fun hok => by rw [if_neg hok]) H.length 0 (by omega) (fun j hj => absurd hj (Nat.not_lt_zero j))
            rw [if_pos hok]
            simp only [code_Decode.f_oM (k : Int) (m : Int) ha S hr H, Option.bind_some]
            rw [decR_okLen h1 (by omega) (by omega) hok]
            by_cases h6 : ((selN H H.length).length : Int) < (k : Int)
            · simp only [if_pos h6, show ((4 : Int) = 0) = False from eq_false (by decide), if_false]
              exact Ev.now _
            · simp only [if_neg h6, if_true]
              have hS : Reg (selM S H) (selN H H.length).length (lenS k n) := by
                refine ⟨selM_length S H, fun i hi => ?_⟩
                rw [row_selM _ _ _ hi]
                have hm := getD_mem (l := selN H H.length) (i := i) hi
                exact hok _ (selN_lt hm) (List.mem_filter.1 hm).2
              obtain ⟨Y, hY, e1, e2, e3⟩ := decM_law hk h (H := H) (by omega) (by omega) hS
              have hD := mulM_reg (cauM_reg k m) hY hk
              rw [← e1] at hD
              have hwd : wrap64 (Int.tdiv ((lenS k n : Nat) : Int) 16) = ((nS k n : Nat) : Int) := by
                have e0 : Int.tdiv ((lenS k n : Nat) : Int) 16 = ((lenS k n / 16 : Nat) : Int) := (Int.ofNat_tdiv (lenS k n) 16).symm
                rw [e0, show lenS k n / 16 = nS k n by unfold lenS; omega]
                exact w64 _ (by omega) (by omega)
              rw [hwd]
              exact join_l1 (by omega) (by rw [hD.1]; omega) (fun j hj => hD.2 j (by omega)) (by unfold lenS; omega) n (nS k n) rfl (by omega) (nS k n) 0 (by omega)
        · rw [show ((H.length : Int) != (k : Int) + (m : Int)) = true from bne_iff_ne.mpr h4, if_neg (fun hh => h4 hh.2.2)]
          exact no
      · rw [if_neg (fun hh => h3 hh.2.1)]
        simp only [if_neg h3]
        exact no
  · simp only [h1, Bool.false_eq_true, if_false, false_and]
    exact no
/-- The units of an object's shards, put together: the object and noughts. -/
theorem joinB_spM {D : Mat} {k n : Nat} (hk : 0 < k) (L : List B) (hn : L.length = n) (hrow : ∀ j, j < k → row D j = row (spM k (lenS k n) L) j) :
    (joinB D k (nS k n)).take n = L ∧ Zs ((joinB D k (nS k n)).drop n) := by
  have hX := spM_reg k (lenS k n) L
  have hD : ∀ j, j < k → (row D j).length = lenS k n := fun j hj => by rw [hrow j hj]; exact hX.2 j hj
  have hJ := joinB_length hD (nS k n) (Nat.le_refl _)
  have hs := (nS_spec k n hk).1
  have hat : ∀ y, y < nS k n * (k * 16) → at0 (joinB D k (nS k n)) y = at0 L y := fun y hy => by
    have hi : y / 16 % k < k := Nat.mod_lt _ hk
    rw [at0_joinB hk hD (nS k n) (Nat.le_refl _) y hy, hrow _ hi]
    unfold spM
    rw [row_map _ _ _ hi]
    unfold spR
    have hx : y / 16 / k * 16 + y % 16 < lenS k n := by
      have h1 : y / 16 < nS k n * k := by
        rw [← Nat.mul_assoc] at hy
        omega
      have h2 : y / 16 / k < nS k n := (Nat.div_lt_iff_lt_mul hk).2 h1
      unfold lenS
      omega
    rw [at0_map _ _ _ hx, if_pos (by unfold lenS at hx ⊢; omega)]
    have e1 : (y / 16 / k * 16 + y % 16) / 16 = y / 16 / k := by omega
    have e2 : (y / 16 / k * 16 + y % 16) % 16 = y % 16 := by omega
    have e3 : y / 16 / k * k + y / 16 % k = y / 16 := by rw [Nat.mul_comm]; exact Nat.div_add_mod _ _
    rw [e1, e2, e3]
    congr 1
    omega
  constructor
  · refine ext0 (by rw [List.length_take, hJ]; omega) fun y hy => ?_
    rw [List.length_take, hJ] at hy
    rw [← hat y (by omega)]
    unfold at0
    rw [List.getD_eq_getElem?_getD, List.getElem?_take_of_lt (by omega), List.getD_eq_getElem?_getD]
  · intro x hx
    obtain ⟨i, hi, rfl⟩ := List.mem_iff_getElem.1 hx
    rw [List.length_drop, hJ] at hi
    have h1 := hat (n + i) (by omega)
    have h2 : at0 L (n + i) = 0#8 := at0_out L (n + i) (by omega)
    rw [h2] at h1
    unfold at0 at h1
    rw [List.getD_eq_getElem?_getD, List.getElem?_eq_getElem (by rw [hJ]; omega)] at h1
    rw [List.getElem_drop]
    exact h1
end Go.Proofs.YtnfgiamdmfkcjaaDoor.Pure
