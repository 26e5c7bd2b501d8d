/- Words and walks that the claim RebuildChunks leans on (what it does not use is left out). -/
import Derived.Test.YtnfgiamdmfkcjaaDoorMRebuildChunks1
import Derived.Test.YtnfgiamdmfkcjaaDoorMRebuildChunks9
import Derived.Test.YtnfgiamdmfkcjaaDoorMRebuildChunks14
import Derived.Test.YtnfgiamdmfkcjaaDoorMRebuildChunks15
import Derived.Test.YtnfgiamdmfkcjaaDoorMRebuildChunks18
import Derived.Test.YtnfgiamdmfkcjaaDoorMRebuildChunks12
import Derived.Test.YtnfgiamdmfkcjaaDoorMRebuildChunks8
set_option linter.unusedSimpArgs false
set_option linter.unusedVariables false
namespace Go.Proofs.YtnfgiamdmfkcjaaDoor.P
open Go.Proofs.YtnfgiamdmfkcjaaDoor.H
open Go.Proofs.YtnfgiamdmfkcjaaDoor.Leaf
open Go.RowKit Go.Proofs.YtnfgiamdmfkcjaaDoorW.PrintWords Go.Proofs.YtnfgiamdmfkcjaaDoorW.PrintLast Go.Proofs.YtnfgiamdmfkcjaaDoorW.PrintMore
attribute [local go_sem] max2_int min2_int max_two min_two max_three min_three max_four min_four
mutual
def wRb_.j0 : Nat → Int → Int → List Int → Bool → Option (Bool)
 | 0, _, _, _, _ => none
 | k + 1, x0, x1, x2, x23 => if x23 = true then ((mooringlaw23_awake.f).bind fun t102 => (some t102)) else ((rebuild_Chunks.f k x0 x1 x2).bind fun bt103 => ((wCh_.f k x0 x1 x2).bind fun bt107 => (if bt103.2 = bt107.2 then (wRb_.j1 k x0 x1 x2 bt103.1 bt103.2 bt107.1 ((bt103.1.length : Int) != (bt107.1.length : Int))) else (wRb_.j1 k x0 x1 x2 bt103.1 bt103.2 bt107.1 true))))
def wRb_.j1 : Nat → Int → Int → List Int → List (S44) → Int → List (S44) → Bool → Option (Bool)
 | 0, _, _, _, _, _, _, _ => none
 | k + 1, x0, x1, x2, x7, x8, x9, x48 => if x48 = true then (none) else (wRb_.l0 k x0 x1 x2 x7 x8 x9 (([] : List Bool)) 0)
def wRb_.l0 : Nat → Int → Int → List Int → List (S44) → Int → List (S44) → List Bool → Int → Option (Bool)
 | 0, _, _, _, _, _, _, _, _ => none
 | k + 1, x0, x1, x2, x7, x8, x9, x11, x12 => if x12 < (x7.length : Int) then (if 0 ≤ x12 then (if x12 < (x9.length : Int) then (if ((rd_T44 x7 x12).f0) = ((rd_T44 x9 x12).f0) then (if ((rd_T44 x7 x12).f2) = ((rd_T44 x9 x12).f2) then (if (strOfNums ((rd_T44 x7 x12).f1)).toList = (strOfNums ((rd_T44 x9 x12).f1)).toList then (if x11.length < 140737488355328 then (wRb_.l0 k x0 x1 x2 x7 x8 x9 (x11 ++ [true]) (wrap64 (x12 + 1))) else (none)) else (none)) else (none)) else (none)) else (none)) else (none)) else (if x8 = 0 then (wRb_.l1 k x0 x1 x2 x7 x11 0) else ((mooringlaw23_awake.f).bind fun t123 => (some t123)))
def wRb_.l1 : Nat → Int → Int → List Int → List (S44) → List Bool → Int → Option (Bool)
 | 0, _, _, _, _, _, _ => none
 | k + 1, x0, x1, x2, x7, x11, x13 => if x13 < x1 then (if (x7.length : Int) = 0 then (none) else (if 0 ≤ (Int.tmod (wrap64 ((wrap64 (x13 * 3)) + (x2.length : Int))) (x7.length : Int)) then (if (Int.tmod (wrap64 ((wrap64 (x13 * 3)) + (x2.length : Int))) (x7.length : Int)) < (x7.length : Int) then (wRb_.l1 k x0 x1 x2 (x7.set ((Int.tmod (wrap64 ((wrap64 (x13 * 3)) + (x2.length : Int))) (x7.length : Int)) : Int).toNat (⟨(rd_T44 x7 (Int.tmod (wrap64 ((wrap64 (x13 * 3)) + (x2.length : Int))) (x7.length : Int))).f0, (rd_T44 x7 (Int.tmod (wrap64 ((wrap64 (x13 * 3)) + (x2.length : Int))) (x7.length : Int))).f1, (((rd_T44 x7 (Int.tmod (wrap64 ((wrap64 (x13 * 3)) + (x2.length : Int))) (x7.length : Int))).f2) + 1) % 4294967296⟩ : S44)) x11 (wrap64 (x13 + 1))) else (none)) else (none))) else ((wOb_.f k x0 x1 (x2.length : Int) x7 x11).bind fun bt126 => (if bt126.2 = 0 then (if (strOfNums bt126.1).toList = (strOfNums x2).toList then ((mooringlaw23_awake.f).bind fun t130 => (some t130)) else (none)) else (none)))
end
def wRb_.f (k : Nat) (a0 : Int) (a1 : Int) (l2 : List Int) : Option (Bool) := (mooringlaw23_light.f a0 a1).bind fun t101 => (if t101 = true then (wRb_.j0 k a0 a1 l2 (decide ((l2.length : Int) > 1000))) else (wRb_.j0 k a0 a1 l2 true))
theorem wRb_.mono_l : ∀ k, (∀ y0 y1 y2 y3, LeO (wRb_.j0 k y0 y1 y2 y3) (wRb_.j0 (k + 1) y0 y1 y2 y3)) ∧ (∀ y0 y1 y2 y3 y4 y5 y6, LeO (wRb_.j1 k y0 y1 y2 y3 y4 y5 y6) (wRb_.j1 (k + 1) y0 y1 y2 y3 y4 y5 y6)) ∧ (∀ y0 y1 y2 y3 y4 y5 y6 y7, LeO (wRb_.l0 k y0 y1 y2 y3 y4 y5 y6 y7) (wRb_.l0 (k + 1) y0 y1 y2 y3 y4 y5 y6 y7)) ∧ (∀ y0 y1 y2 y3 y4 y5, LeO (wRb_.l1 k y0 y1 y2 y3 y4 y5) (wRb_.l1 (k + 1) y0 y1 y2 y3 y4 y5))
 | 0 => ⟨fun _ _ _ _ r h => by simp [wRb_.j0] at h, fun _ _ _ _ _ _ _ r h => by simp [wRb_.j1] at h, fun _ _ _ _ _ _ _ _ r h => by simp [wRb_.l0] at h, fun _ _ _ _ _ _ r h => by simp [wRb_.l1] at h⟩
 | k + 1 => by
  obtain ⟨ih0, ih1, ih2, ih3⟩ := wRb_.mono_l k
  refine ⟨?_, ?_, ?_, ?_⟩
  ·intro y0 y1 y2 y3
   unfold wRb_.j0
   repeat' first
   | (with_reducible exact ih0 _ _ _ _)
   | (with_reducible exact ih1 _ _ _ _ _ _ _)
   | (with_reducible exact ih2 _ _ _ _ _ _ _ _)
   | (with_reducible exact ih3 _ _ _ _ _ _)
   | (with_reducible exact wCh_.mono _ _ _ _)
   | (with_reducible exact rebuild_Chunks.mono _ _ _ _)
   | (with_reducible exact wOb_.mono _ _ _ _ _ _)
   | (with_reducible exact LeO.refl _)
   | (with_reducible exact LeO.none _)
   | (with_reducible refine LeO.ite ?_ ?_)
   | (with_reducible refine LeO.bind ?_ (fun _ => ?_))
   | exact ih0 _ _ _ _
   | exact ih1 _ _ _ _ _ _ _
   | exact ih2 _ _ _ _ _ _ _ _
   | exact ih3 _ _ _ _ _ _
   | exact wCh_.mono _ _ _ _
   | exact rebuild_Chunks.mono _ _ _ _
   | exact wOb_.mono _ _ _ _ _ _
   | exact LeO.none _
   | refine LeO.ite ?_ ?_
   | refine LeO.bind ?_ (fun _ => ?_)
  ·intro y0 y1 y2 y3 y4 y5 y6
   unfold wRb_.j1
   repeat' first
   | (with_reducible exact ih0 _ _ _ _)
   | (with_reducible exact ih1 _ _ _ _ _ _ _)
   | (with_reducible exact ih2 _ _ _ _ _ _ _ _)
   | (with_reducible exact ih3 _ _ _ _ _ _)
   | (with_reducible exact wCh_.mono _ _ _ _)
   | (with_reducible exact rebuild_Chunks.mono _ _ _ _)
   | (with_reducible exact wOb_.mono _ _ _ _ _ _)
   | (with_reducible exact LeO.refl _)
   | (with_reducible exact LeO.none _)
   | (with_reducible refine LeO.ite ?_ ?_)
   | (with_reducible refine LeO.bind ?_ (fun _ => ?_))
   | exact ih0 _ _ _ _
   | exact ih1 _ _ _ _ _ _ _
   | exact ih2 _ _ _ _ _ _ _ _
   | exact ih3 _ _ _ _ _ _
   | exact wCh_.mono _ _ _ _
   | exact rebuild_Chunks.mono _ _ _ _
   | exact wOb_.mono _ _ _ _ _ _
   | exact LeO.none _
   | refine LeO.ite ?_ ?_
   | refine LeO.bind ?_ (fun _ => ?_)
  ·intro y0 y1 y2 y3 y4 y5 y6 y7
   unfold wRb_.l0
   repeat' first
   | (with_reducible exact ih0 _ _ _ _)
   | (with_reducible exact ih1 _ _ _ _ _ _ _)
   | (with_reducible exact ih2 _ _ _ _ _ _ _ _)
   | (with_reducible exact ih3 _ _ _ _ _ _)
   | (with_reducible exact wCh_.mono _ _ _ _)
   | (with_reducible exact rebuild_Chunks.mono _ _ _ _)
   | (with_reducible exact wOb_.mono _ _ _ _ _ _)
   | (with_reducible exact LeO.refl _)
   | (with_reducible exact LeO.none _)
   | (with_reducible refine LeO.ite ?_ ?_)
   | (with_reducible refine LeO.bind ?_ (fun _ => ?_))
   | exact ih0 _ _ _ _
   | exact ih1 _ _ _ _ _ _ _
   | exact ih2 _ _ _ _ _ _ _ _
   | exact ih3 _ _ _ _ _ _
   | exact wCh_.mono _ _ _ _
   | exact rebuild_Chunks.mono _ _ _ _
   | exact wOb_.mono _ _ _ _ _ _
   | exact LeO.none _
   | refine LeO.ite ?_ ?_
   | refine LeO.bind ?_ (fun _ => ?_)
  ·intro y0 y1 y2 y3 y4 y5
   unfold wRb_.l1
   repeat' first
   | (with_reducible exact ih0 _ _ _ _)
   | (with_reducible exact ih1 _ _ _ _ _ _ _)
   | (with_reducible exact ih2 _ _ _ _ _ _ _ _)
   | (with_reducible exact ih3 _ _ _ _ _ _)
   | (with_reducible exact wCh_.mono _ _ _ _)
   | (with_reducible exact rebuild_Chunks.mono _ _ _ _)
   | (with_reducible exact wOb_.mono _ _ _ _ _ _)
   | (with_reducible exact LeO.refl _)
   | (with_reducible exact LeO.none _)
   | (with_reducible refine LeO.ite ?_ ?_)
   | (with_reducible refine LeO.bind ?_ (fun _ => ?_))
   | exact ih0 _ _ _ _
   | exact ih1 _ _ _ _ _ _ _
   | exact ih2 _ _ _ _ _ _ _ _
   | exact ih3 _ _ _ _ _ _
   | exact wCh_.mono _ _ _ _
   | exact rebuild_Chunks.mono _ _ _ _
   | exact wOb_.mono _ _ _ _ _ _
   | exact LeO.none _
   | refine LeO.ite ?_ ?_
   | refine LeO.bind ?_ (fun _ => ?_)
theorem wRb_.mono : ∀ a0 a1 a2 k, LeO (wRb_.f k a0 a1 a2) (wRb_.f (k + 1) a0 a1 a2) := by
 intro a0 a1 a2 k
 obtain ⟨ih0, ih1, ih2, ih3⟩ := wRb_.mono_l k
 unfold wRb_.f
 repeat' first
  | (with_reducible exact ih0 _ _ _ _)
  | (with_reducible exact ih1 _ _ _ _ _ _ _)
  | (with_reducible exact ih2 _ _ _ _ _ _ _ _)
  | (with_reducible exact ih3 _ _ _ _ _ _)
  | (with_reducible exact wCh_.mono _ _ _ _)
  | (with_reducible exact rebuild_Chunks.mono _ _ _ _)
  | (with_reducible exact wOb_.mono _ _ _ _ _ _)
  | (with_reducible exact LeO.refl _)
  | (with_reducible exact LeO.none _)
  | (with_reducible refine LeO.ite ?_ ?_)
  | (with_reducible refine LeO.bind ?_ (fun _ => ?_))
  | exact ih0 _ _ _ _
  | exact ih1 _ _ _ _ _ _ _
  | exact ih2 _ _ _ _ _ _ _ _
  | exact ih3 _ _ _ _ _ _
  | exact wCh_.mono _ _ _ _
  | exact rebuild_Chunks.mono _ _ _ _
  | exact wOb_.mono _ _ _ _ _ _
  | exact LeO.none _
  | refine LeO.ite ?_ ?_
  | refine LeO.bind ?_ (fun _ => ?_)
set_option maxHeartbeats 8000000 in
set_option maxRecDepth 100000 in
theorem wRb_.calls (k : Nat) (a0 : Int) (a1 : Int) (A2 : Option Addr) (c2 : Nat) (l2 : List Int) (r : Bool) (w : World) (hr2 : Kd.C (Kd.int .u8) w A2 l2.length l2) (hc2 : l2.length ≤ c2) (h : wRb_.f k a0 a1 l2 = some r) :
 Calls Tryd.prog 5 #[.int .i64 a0, .int .i64 a1, .slice A2 l2.length c2] w fun e w' => e = .returned (.bool r) ∧ Below w.heap.size w w' := by
 have HR2 := Aside0.mk hr2
 have HC2 := Aside0.mk hc2
 clear hr2 hc2
 have HB := Aside0.mk (Below.refl w.heap.size w)
 have H : ((mooringlaw23_light.f a0 a1).bind fun t101 => (if t101 = true then (wRb_.j0 k a0 a1 l2 (decide ((l2.length : Int) > 1000))) else (wRb_.j0 k a0 a1 l2 true))) = some r := h
 clear h
 have HC4 := Aside0.mk H
 clear H
 go_enter Tryd.func5, Tryd.ntmps5
 go_upto_region 1 with (fail)
 go_cut [23] (fun v23 wc => ∃ (kq : Nat) (x23_3 : Bool), v23 = .bool x23_3 ∧ Aside0 (wRb_.j0 kq a0 a1 l2 x23_3 = some r) ∧ Aside0 (kq ≤ k) ∧ Aside0 (Below w.heap.size w wc))
 case first =>
  have H := HC4.out
  clear HC4
  replace H := Option.bind_eq_some_iff.mp H
  obtain ⟨t101, A50, H⟩ := H
  replace H : (if t101 = true then (wRb_.j0 k a0 a1 l2 (decide ((l2.length : Int) > 1000))) else (wRb_.j0 k a0 a1 l2 true)) = some r := H
  have A5 := Aside0.mk A50
  clear A50
  by_cases c6 : t101 = true
  ·subst c6
   have H1 : (wRb_.j0 k a0 a1 l2 (decide ((l2.length : Int) > 1000))) = some r := by rw [if_pos rfl] at H; exact H
   clear H
   have H := H1
   clear H1
   have H' := Aside0.mk H
   clear H
   go_wp2_with (first | (go_at_call 16; (with_reducible refine (mooringlaw23_light.calls a0 a1 true _ A5.out).mono ?_); rintro e w' ⟨rfl, ⟨nd, rfl⟩⟩; (try first | exact ⟨rfl, _, World.drewN_drewN _ _ _⟩ | exact ⟨rfl, _, Eq.trans (World.drewN_drewN _ _ _) (congrArg (World.drewN _) (Nat.add_assoc _ _ _))⟩)))
   go_meet
   case rel => exact ⟨_, (decide ((l2.length : Int) > 1000)), (by first | rfl | (simp; done) | (simp [*]; done)), H', ⟨by first | omega | exact Nat.le_refl _⟩, ⟨by repeat (first | (with_reducible first | exact HB.out | apply zC_ | apply zA_ | apply zB_) | exact HB.out)⟩⟩
  ·replace c6 := Bool.eq_false_iff.mpr c6
   subst c6
   have H1 : (wRb_.j0 k a0 a1 l2 true) = some r := by rw [if_neg (show ¬ (false = true) by decide)] at H; exact H
   clear H
   have H := H1
   clear H1
   have H' := Aside0.mk H
   clear H
   go_wp2_with (first | (go_at_call 16; (with_reducible refine (mooringlaw23_light.calls a0 a1 false _ A5.out).mono ?_); rintro e w' ⟨rfl, ⟨nd, rfl⟩⟩; (try first | exact ⟨rfl, _, World.drewN_drewN _ _ _⟩ | exact ⟨rfl, _, Eq.trans (World.drewN_drewN _ _ _) (congrArg (World.drewN _) (Nat.add_assoc _ _ _))⟩)))
   go_meet
   case rel => exact ⟨_, (true), (by first | rfl | (simp; done) | (simp [*]; done)), H', ⟨by first | omega | exact Nat.le_refl _⟩, ⟨by repeat (first | (with_reducible first | exact HB.out | apply zC_ | apply zA_ | apply zB_) | exact HB.out)⟩⟩
 case rest =>
  clear HC4
  try clear c2
  try clear p2
  try clear c5
  try clear c6
  obtain ⟨kq, x23_3, rfl, HA, HJ3, HB⟩ := hcut
  cases kq with
  | zero => exact absurd HA.out (by simp [wRb_.j0])
  | succ kj3 =>
   have H := HA.out
   clear HA
   simp only [wRb_.j0] at H
   by_cases c7 : x23_3 = true
   ·subst c7
    have H1 : ((mooringlaw23_awake.f).bind fun t102 => (some t102)) = some r := by rw [if_pos rfl] at H; exact H
    clear H
    have H := H1
    clear H1
    replace H := Option.bind_eq_some_iff.mp H
    obtain ⟨t102, A80, H⟩ := H
    replace H : (some t102) = some r := H
    have A8 := Aside0.mk A80
    clear A80
    obtain rfl := Option.some.inj H
    go_wp2_with (first | (go_at_call 17; (with_reducible refine (mooringlaw23_awake.calls  t102 _ A8.out).mono ?_); rintro e w9 ⟨rfl, hb⟩; have n0_ := Aside0.mk (zE_ (by repeat (first | (with_reducible first | exact HB.out | apply zC_ | apply zA_ | apply zB_) | exact HB.out)) hb); clear HB; have HB := n0_; clear n0_; (try clear hb); (try clear hb2); (try clear hk); (try clear hi)))
    go_ret
    exact ⟨by first | rfl | (simp [errW_none, errW_some] <;> rfl) | (simp [*, errW_none, errW_some] <;> rfl), by repeat (first | (with_reducible first | exact HB.out | apply zC_ | apply zA_ | apply zB_) | exact HB.out)⟩
   ·replace c7 := Bool.eq_false_iff.mpr c7
    subst c7
    have H1 : ((rebuild_Chunks.f kj3 a0 a1 l2).bind fun bt103 => ((wCh_.f kj3 a0 a1 l2).bind fun bt107 => (if bt103.2 = bt107.2 then (wRb_.j1 kj3 a0 a1 l2 bt103.1 bt103.2 bt107.1 ((bt103.1.length : Int) != (bt107.1.length : Int))) else (wRb_.j1 kj3 a0 a1 l2 bt103.1 bt103.2 bt107.1 true)))) = some r := by rw [if_neg (show ¬ (false = true) by decide)] at H; exact H
    clear H
    have H := H1
    clear H1
    replace H := Option.bind_eq_some_iff.mp H
    obtain ⟨⟨t103, t106⟩, A100, H⟩ := H
    replace H : ((wCh_.f kj3 a0 a1 l2).bind fun bt107 => (if t106 = bt107.2 then (wRb_.j1 kj3 a0 a1 l2 t103 t106 bt107.1 ((t103.length : Int) != (bt107.1.length : Int))) else (wRb_.j1 kj3 a0 a1 l2 t103 t106 bt107.1 true))) = some r := H
    have A10 := Aside0.mk A100
    clear A100
    replace H := Option.bind_eq_some_iff.mp H
    obtain ⟨⟨t107, t110⟩, A110, H⟩ := H
    replace H : (if t106 = t110 then (wRb_.j1 kj3 a0 a1 l2 t103 t106 t107 ((t103.length : Int) != (t107.length : Int))) else (wRb_.j1 kj3 a0 a1 l2 t103 t106 t107 true)) = some r := H
    have A11 := Aside0.mk A110
    clear A110
    have HC12 := Aside0.mk H
    clear H
    go_upto_region 5 with (first | (go_at_call 18; (with_reducible refine (rebuild_Chunks.calls kj3 a0 a1 _ _ l2 t103 t106 _ ?side1 ?side2 A10.out).mono ?_); (case side1 => repeat (first | exact (Kd.C_below HR2.out HB.out) | (with_reducible refine Kd.C_alloc ?_ _) | (with_reducible refine Kd.C_drewN ?_ _) | (with_reducible refine Kd.C_drew ?_))); (case side2 => exact HC2.out); rintro e w13 ⟨v104, rfl, ho0, hb⟩; have n0_ := Aside0.mk (Kd.N_lower (Kd.N_mono (ok' := fun k_ => True) ho0 (fun k_ hk_ => trivial)) (zF_ (by repeat (first | (with_reducible first | exact HB.out | apply zC_ | apply zA_ | apply zB_) | exact HB.out)))); have n1_ := Aside0.mk (zE_ (by repeat (first | (with_reducible first | exact HB.out | apply zC_ | apply zA_ | apply zB_) | exact HB.out)) hb); clear HB; have HO105 := n0_; have HB := n1_; clear n0_ n1_; (try clear hb); (try clear hb2); (try clear hk); (try clear hi); (try clear ho0)) | (go_at_call 19; (with_reducible refine (wCh_.calls kj3 a0 a1 _ _ l2 t107 t110 _ ?side1 ?side2 A11.out).mono ?_); (case side1 => repeat (first | exact (Kd.C_below HR2.out HB.out) | (with_reducible refine Kd.C_alloc ?_ _) | (with_reducible refine Kd.C_drewN ?_ _) | (with_reducible refine Kd.C_drew ?_))); (case side2 => exact HC2.out); rintro e w14 ⟨v108, rfl, ho0, hb⟩; have n0_ := Aside0.mk (Kd.N_elder' (by (with_reducible repeat (first | apply Kd.N_alloc | apply Kd.N_drewN | apply Kd.N_drew)); exact HO105.out) (by first | exact Kd.N_base ho0 | exact Kd.S_base ho0) hb); have n1_ := Aside0.mk (Kd.N_lower (Kd.N_mono (ok' := fun k_ => some k_ ≠ (v104 : Value).ownBlock) ho0 (fun k_ hk_ => (Kd.fresh' (Kd.N_lt (by (with_reducible repeat (first | apply Kd.N_alloc | apply Kd.N_drewN | apply Kd.N_drew)); exact HO105.out)) k_ hk_))) (zF_ (by repeat (first | (with_reducible first | exact HB.out | apply zC_ | apply zA_ | apply zB_) | exact HB.out)))); have n2_ := Aside0.mk (zE_ (by repeat (first | (with_reducible first | exact HB.out | apply zC_ | apply zA_ | apply zB_) | exact HB.out)) hb); clear HO105; clear HB; have HO105 := n0_; have HO109 := n1_; have HB := n2_; clear n0_ n1_ n2_; (try clear hb); (try clear hb2); (try clear hk); (try clear hi); (try clear ho0)))
    (try simp only [Act.put, qA_, qB_, qC_])
    go_cut [48] (fun v48 wc => ∃ (kq : Nat) (x48_11 : Bool), v48 = .bool x48_11 ∧ Aside0 (wRb_.j1 kq a0 a1 l2 t103 t106 t107 x48_11 = some r) ∧ Aside0 (kq ≤ kj3) ∧ Aside0 (Kd.N k44 44 wc w.heap.size (fun k_ => some k_ ≠ (v108 : Value).ownBlock) v104 t103) ∧ Aside0 (Kd.N k44 44 wc w.heap.size (fun k_ => some k_ ≠ (v104 : Value).ownBlock) v108 t107) ∧ Aside0 (Below w.heap.size w wc))
    case first =>
     have H := HC12.out
     clear HC12
     by_cases c15 : t106 = t110
     ·rw [if_pos c15] at H
      have c15b0 : (t106 == t110) = true := beq_iff_eq.mpr c15
      have c15b1 : (t106 != t110) = false := bne_eq_false_iff_eq.mpr c15
      clear c15
      (first | rw [c15b0] | (simp only [i64_w, i32_w]; rw [c15b0]) | skip)
      have H' := Aside0.mk H
      clear H
      obtain ⟨Ao16, co16, eo16⟩ := Kd.N_slice HO105.out
      subst eo16
      obtain ⟨Ao17, co17, eo17⟩ := Kd.N_slice HO109.out
      subst eo17
      go_wp2
      go_meet
      case rel => exact ⟨_, (((t103.length : Int) != (t107.length : Int))), (by first | rfl | (simp; done) | (simp [*]; done)), H', ⟨by have := HJ3.out; first | omega | exact Nat.le_refl _⟩, ⟨by (with_reducible repeat (first | apply Kd.N_alloc | apply Kd.N_drewN | apply Kd.N_drew)); exact Kd.N_mono HO105.out (fun _ hk => hk.2)⟩, ⟨by (with_reducible repeat (first | apply Kd.N_alloc | apply Kd.N_drewN | apply Kd.N_drew)); exact HO109.out⟩, ⟨by repeat (first | (with_reducible first | exact HB.out | apply zC_ | apply zA_ | apply zB_) | exact HB.out)⟩⟩
     ·rw [if_neg c15] at H
      have c15b0 : (t106 == t110) = false := beq_eq_false_iff_ne.mpr c15
      have c15b1 : (t106 != t110) = true := bne_iff_ne.mpr c15
      (first | rw [c15b0] | (simp only [i64_w, i32_w]; rw [c15b0]) | skip)
      have H' := Aside0.mk H
      clear H
      go_wp2
      go_meet
      case rel => exact ⟨_, (true), (by first | rfl | (simp; done) | (simp [*]; done)), H', ⟨by have := HJ3.out; first | omega | exact Nat.le_refl _⟩, ⟨by (with_reducible repeat (first | apply Kd.N_alloc | apply Kd.N_drewN | apply Kd.N_drew)); exact Kd.N_mono HO105.out (fun _ hk => hk.2)⟩, ⟨by (with_reducible repeat (first | apply Kd.N_alloc | apply Kd.N_drewN | apply Kd.N_drew)); exact HO109.out⟩, ⟨by repeat (first | (with_reducible first | exact HB.out | apply zC_ | apply zA_ | apply zB_) | exact HB.out)⟩⟩
    case rest =>
     clear HC12
     try clear c1
     try clear c2
     try clear p2
     try clear c5
     try clear c6
     try clear c7
     try clear c15
     try clear c15b0
     try clear c15b1
     try clear p2
     obtain ⟨kq, x48_11, rfl, HA, HJ11, HO_7, HO_9, HB⟩ := hcut
     cases kq with
     | zero => exact absurd HA.out (by simp [wRb_.j1])
     | succ kj11 =>
      have H := HA.out
      clear HA
      simp only [wRb_.j1] at H
      by_cases c18 : x48_11 = true
      ·subst c18
       have H1 : (none) = some r := by rw [if_pos rfl] at H; exact H
       exact absurd H1 (by simp)
      ·replace c18 := Bool.eq_false_iff.mpr c18
       subst c18
       have H1 : (wRb_.l0 kj11 a0 a1 l2 t103 t106 t107 (([] : List Bool)) 0) = some r := by rw [if_neg (show ¬ (false = true) by decide)] at H; exact H
       clear H
       have H := H1
       clear H1
       obtain ⟨y111, hy111⟩ : ∃ y_ : List Bool, y_ = (([] : List Bool)) := ⟨_, rfl⟩
       replace H : (wRb_.l0 kj11 a0 a1 l2 t103 t106 t107 y111 0) = some r := by first | (rw [hy111]; with_reducible exact H) | (have H2_ := (Option.bind_some _ _).symm.trans H; rw [hy111]; with_reducible exact H2_) | (have H2_ := (Option.bind_some _ _).symm.trans H; with_reducible exact H2_) | with_reducible exact H | (rw [hy111]; exact H) | exact H
       have Ny111 := Aside0.mk hy111
       clear hy111
       have H' := Aside0.mk H
       clear H
       go_wp2_with (first | ((with_reducible refine gate_dst (N := 49) rfl ?_); (try (refine gate_guard (by rfl) ?_; dsimp only)); refine Kd.R_lit Kd.bool _ 4 ?hg (N := 49) ?hd (xs := ([] : List Bool)) (inner := []) (ok := fun _ => True) (okp := fun _ => True) ?hr ?hp (fun _ hk => hk) trivial (Below.refl _ _) (Nat.le_refl _) (by simp) ?_; (case hd => rfl); (case hg => rfl); (case hr => first | (go_simp; done) | (go_simp; rfl)); (case hp => exact (Reps.none _ _)); intro v112 w19 ho20 hb hg_ hnew_; clear hg_ hnew_; (first | rw [← Ny111.out] at ho20 | (simp only [Int.reduceToNat] at ho20; rw [← Ny111.out] at ho20)); have n0_ := Aside0.mk (Kd.N_elder' (by (with_reducible repeat (first | apply Kd.N_alloc | apply Kd.N_drewN | apply Kd.N_drew)); exact HO_7.out) (Kd.R_base ho20) hb); have n1_ := Aside0.mk (Kd.N_elder' (by (with_reducible repeat (first | apply Kd.N_alloc | apply Kd.N_drewN | apply Kd.N_drew)); exact HO_9.out) (Kd.R_base ho20) hb); have n2_ := Aside0.mk (Kd.R_lower ho20 (zF_ (by repeat (first | (with_reducible first | exact HB.out | apply zC_ | apply zA_ | apply zB_) | exact HB.out)))); have n3_ := Aside0.mk (zE_ (by repeat (first | (with_reducible first | exact HB.out | apply zC_ | apply zA_ | apply zB_) | exact HB.out)) hb); clear HO_7; clear HO_9; clear HB; have HO_7 := n0_; have HO_9 := n1_; have HO113 := n2_; have HB := n3_; clear n0_ n1_ n2_ n3_; clear hb ho20))
       go_loopg [11, 12] kj11 (fun kq v11 v12 w' => ∃ (x11_3 : List Bool) (x12_3 : Int), v12 = .int .i64 x12_3 ∧ Aside0 (wRb_.l0 kq a0 a1 l2 t103 t106 t107 x11_3 x12_3 = some r) ∧ Aside0 (kq ≤ kj11) ∧ Aside0 (Kd.N k44 44 w' w.heap.size (fun k_ => some k_ ≠ (v108 : Value).ownBlock ∧ some k_ ≠ (v11 : Value).ownBlock) v104 t103) ∧ Aside0 (Kd.N k44 44 w' w.heap.size (fun k_ => some k_ ≠ (v104 : Value).ownBlock ∧ some k_ ≠ (v11 : Value).ownBlock) v108 t107) ∧ Aside0 (Kd.R Kd.bool 4 w' w.heap.size (fun _ => True) v11 x11_3) ∧ Aside0 (Below w.heap.size w w'))
       case atStart => exact ⟨(y111), (0), (by first | rfl | (simp; done) | (simp [*]; done)), H', ⟨Nat.le_refl _⟩, ⟨by (with_reducible repeat (first | apply Kd.N_alloc | apply Kd.N_drewN | apply Kd.N_drew)); exact HO_7.out⟩, ⟨by (with_reducible repeat (first | apply Kd.N_alloc | apply Kd.N_drewN | apply Kd.N_drew)); exact HO_9.out⟩, ⟨by (with_reducible repeat (first | apply Kd.R_alloc | apply Kd.R_drewN | apply Kd.R_drew)); exact HO113.out⟩, ⟨by repeat (first | (with_reducible first | exact HB.out | apply zC_ | apply zA_ | apply zB_) | exact HB.out)⟩⟩
       case round =>
        clear H'
        try clear c1
        try clear c2
        try clear p2
        try clear c5
        try clear c6
        try clear c7
        try clear c15
        try clear c15b0
        try clear c15b1
        try clear c18
        try clear p2
        obtain ⟨x11_3, x12_3, rfl, HA, HK3, HO_7, HO_9, HO_11, HB⟩ := hrel
        cases gk with
        | zero => exact absurd HA.out (by simp [wRb_.l0])
        | succ k3 =>
         have H := HA.out
         clear HA
         simp only [wRb_.l0] at H
         by_cases c21 : x12_3 < (t103.length : Int)
         ·rw [if_pos c21] at H
          have c21b0 : decide (x12_3 < (t103.length : Int)) = true := decide_eq_true c21
          clear c21
          by_cases c22 : 0 ≤ x12_3
          ·rw [if_pos c22] at H
           have c22b0 : decide (0 ≤ x12_3) = true := decide_eq_true c22
           clear c22
           by_cases c23 : x12_3 < (t107.length : Int)
           ·rw [if_pos c23] at H
            have c23b0 : decide (x12_3 < (t107.length : Int)) = true := decide_eq_true c23
            clear c23
            by_cases c24 : ((rd_T44 t103 x12_3).f0) = ((rd_T44 t107 x12_3).f0)
            ·rw [if_pos c24] at H
             have c24b0 : (((rd_T44 t103 x12_3).f0) == ((rd_T44 t107 x12_3).f0)) = true := beq_iff_eq.mpr c24
             have c24b1 : (((rd_T44 t103 x12_3).f0) != ((rd_T44 t107 x12_3).f0)) = false := bne_eq_false_iff_eq.mpr c24
             clear c24
             by_cases c25 : ((rd_T44 t103 x12_3).f2) = ((rd_T44 t107 x12_3).f2)
             ·rw [if_pos c25] at H
              have c25b0 : (((rd_T44 t103 x12_3).f2) == ((rd_T44 t107 x12_3).f2)) = true := beq_iff_eq.mpr c25
              have c25b1 : (((rd_T44 t103 x12_3).f2) != ((rd_T44 t107 x12_3).f2)) = false := bne_eq_false_iff_eq.mpr c25
              clear c25
              by_cases c26 : (strOfNums ((rd_T44 t103 x12_3).f1)).toList = (strOfNums ((rd_T44 t107 x12_3).f1)).toList
              ·rw [if_pos c26] at H
               have c26b0 : ((strOfNums ((rd_T44 t103 x12_3).f1)).toList == (strOfNums ((rd_T44 t107 x12_3).f1)).toList) = true := beq_iff_eq.mpr c26
               have c26b1 : ((strOfNums ((rd_T44 t103 x12_3).f1)).toList != (strOfNums ((rd_T44 t107 x12_3).f1)).toList) = false := bne_eq_false_iff_eq.mpr c26
               clear c26
               by_cases c27 : x11_3.length < 140737488355328
               ·rw [if_pos c27] at H
                have LMc27 := Aside0.mk c27
                clear c27
                obtain ⟨y120, hy120⟩ : ∃ y_ : List Bool, y_ = (x11_3 ++ [true]) := ⟨_, rfl⟩
                replace H : (wRb_.l0 k3 a0 a1 l2 t103 t106 t107 y120 (wrap64 (x12_3 + 1))) = some r := by first | (rw [hy120]; with_reducible exact H) | (have H2_ := (Option.bind_some _ _).symm.trans H; rw [hy120]; with_reducible exact H2_) | (have H2_ := (Option.bind_some _ _).symm.trans H; with_reducible exact H2_) | with_reducible exact H | (rw [hy120]; exact H) | exact H
                have Ny120 := Aside0.mk hy120
                clear hy120
                have H' := Aside0.mk H
                clear H
                obtain ⟨Ao28, co28, eo28⟩ := Kd.N_slice HO_7.out
                subst eo28
                have p114 : 0 ≤ (x12_3 : Int) := of_decide_eq_true (by first | (with_reducible assumption) | assumption)
                have q114 : x12_3 < (t103.length : Int) := of_decide_eq_true (by first | (with_reducible assumption) | assumption)
                obtain ⟨ad114, A114_1, c114_1, e114, hx114_0, hx114_1, hx114_2, hl114_1, hi114_1⟩ := at_T44 (Kd.N_reads' HO_7.out).2.2 x12_3 p114 q114
                cases e114
                obtain ⟨ce114, hce114, hMe114, hcc114⟩ := Kd.N_get HO_7.out z44 x12_3 p114 (by first | exact q114 | exact of_decide_eq_true (by first | (with_reducible assumption) | assumption) | (have e_ := (Kd.N_reads' HO_7.out).1; omega))
                obtain ⟨ua114_1, uc114_1, rfl, ul114_1, ge114_1⟩ := k44_openF hMe114
                have hv114_1 := hcc114 1 _ rfl
                rw [add_field _ _ 1 (by omega)] at hv114_1
                replace hv114_1 := Option.some.inj (hv114_1.symm.trans hx114_1)
                injection hv114_1 with hva_ hvn_ hvc_
                rw [hva_] at ge114_1
                rw [hvc_] at ul114_1
                have HL114_1 := Aside0.mk (show Kd.V (Kd.int .u8) 5 _ w.heap.size _ _ ((rd_T44 t103 x12_3).f1) from Kd.V_mk ul114_1 ge114_1)
                clear hva_ hvn_ hvc_ ge114_1 ul114_1
                clear hcc114 hce114
                have HR114_1 := Aside0.mk hi114_1
                have HC114_1 := Aside0.mk hl114_1
                clear hi114_1 hl114_1
                replace p114 := eq_true p114
                replace q114 := eq_true q114
                obtain ⟨Ao29, co29, eo29⟩ := Kd.N_slice HO_9.out
                subst eo29
                have p115 : 0 ≤ (x12_3 : Int) := of_decide_eq_true (by first | (with_reducible assumption) | assumption)
                have q115 : x12_3 < (t107.length : Int) := of_decide_eq_true (by first | (with_reducible assumption) | assumption)
                obtain ⟨ad115, A115_1, c115_1, e115, hx115_0, hx115_1, hx115_2, hl115_1, hi115_1⟩ := at_T44 (Kd.N_reads' HO_9.out).2.2 x12_3 p115 q115
                cases e115
                obtain ⟨ce115, hce115, hMe115, hcc115⟩ := Kd.N_get HO_9.out z44 x12_3 p115 (by first | exact q115 | exact of_decide_eq_true (by first | (with_reducible assumption) | assumption) | (have e_ := (Kd.N_reads' HO_9.out).1; omega))
                obtain ⟨ua115_1, uc115_1, rfl, ul115_1, ge115_1⟩ := k44_openF hMe115
                have hv115_1 := hcc115 1 _ rfl
                rw [add_field _ _ 1 (by omega)] at hv115_1
                replace hv115_1 := Option.some.inj (hv115_1.symm.trans hx115_1)
                injection hv115_1 with hva_ hvn_ hvc_
                rw [hva_] at ge115_1
                rw [hvc_] at ul115_1
                have HL115_1 := Aside0.mk (show Kd.V (Kd.int .u8) 5 _ w.heap.size _ _ ((rd_T44 t107 x12_3).f1) from Kd.V_mk ul115_1 ge115_1)
                clear hva_ hvn_ hvc_ ge115_1 ul115_1
                clear hcc115 hce115
                have HR115_1 := Aside0.mk hi115_1
                have HC115_1 := Aside0.mk hl115_1
                clear hi115_1 hl115_1
                replace p115 := eq_true p115
                replace q115 := eq_true q115
                have p116 : 0 ≤ (x12_3 : Int) := of_decide_eq_true (by first | (with_reducible assumption) | assumption)
                have q116 : x12_3 < (t103.length : Int) := of_decide_eq_true (by first | (with_reducible assumption) | assumption)
                obtain ⟨ad116, A116_1, c116_1, e116, hx116_0, hx116_1, hx116_2, hl116_1, hi116_1⟩ := at_T44 (Kd.N_reads' HO_7.out).2.2 x12_3 p116 q116
                obtain rfl : ad114 = ad116 := (by injection e116)
                obtain ⟨ce116, hce116, hMe116, hcc116⟩ := Kd.N_get HO_7.out z44 x12_3 p116 (by first | exact q116 | exact of_decide_eq_true (by first | (with_reducible assumption) | assumption) | (have e_ := (Kd.N_reads' HO_7.out).1; omega))
                obtain ⟨ua116_1, uc116_1, rfl, ul116_1, ge116_1⟩ := k44_openF hMe116
                have hv116_1 := hcc116 1 _ rfl
                rw [add_field _ _ 1 (by omega)] at hv116_1
                replace hv116_1 := Option.some.inj (hv116_1.symm.trans hx116_1)
                injection hv116_1 with hva_ hvn_ hvc_
                rw [hva_] at ge116_1
                rw [hvc_] at ul116_1
                have HL116_1 := Aside0.mk (show Kd.V (Kd.int .u8) 5 _ w.heap.size _ _ ((rd_T44 t103 x12_3).f1) from Kd.V_mk ul116_1 ge116_1)
                clear hva_ hvn_ hvc_ ge116_1 ul116_1
                clear hcc116 hce116
                have HR116_1 := Aside0.mk hi116_1
                have HC116_1 := Aside0.mk hl116_1
                clear hi116_1 hl116_1
                replace p116 := eq_true p116
                replace q116 := eq_true q116
                have ea_ := Option.some.inj (hx114_1.symm.trans hx116_1)
                injection ea_ with ea_ en_ ec_
                subst ea_
                subst ec_
                clear en_
                have p117 : 0 ≤ (x12_3 : Int) := of_decide_eq_true (by first | (with_reducible assumption) | assumption)
                have q117 : x12_3 < (t107.length : Int) := of_decide_eq_true (by first | (with_reducible assumption) | assumption)
                obtain ⟨ad117, A117_1, c117_1, e117, hx117_0, hx117_1, hx117_2, hl117_1, hi117_1⟩ := at_T44 (Kd.N_reads' HO_9.out).2.2 x12_3 p117 q117
                obtain rfl : ad115 = ad117 := (by injection e117)
                obtain ⟨ce117, hce117, hMe117, hcc117⟩ := Kd.N_get HO_9.out z44 x12_3 p117 (by first | exact q117 | exact of_decide_eq_true (by first | (with_reducible assumption) | assumption) | (have e_ := (Kd.N_reads' HO_9.out).1; omega))
                obtain ⟨ua117_1, uc117_1, rfl, ul117_1, ge117_1⟩ := k44_openF hMe117
                have hv117_1 := hcc117 1 _ rfl
                rw [add_field _ _ 1 (by omega)] at hv117_1
                replace hv117_1 := Option.some.inj (hv117_1.symm.trans hx117_1)
                injection hv117_1 with hva_ hvn_ hvc_
                rw [hva_] at ge117_1
                rw [hvc_] at ul117_1
                have HL117_1 := Aside0.mk (show Kd.V (Kd.int .u8) 5 _ w.heap.size _ _ ((rd_T44 t107 x12_3).f1) from Kd.V_mk ul117_1 ge117_1)
                clear hva_ hvn_ hvc_ ge117_1 ul117_1
                clear hcc117 hce117
                have HR117_1 := Aside0.mk hi117_1
                have HC117_1 := Aside0.mk hl117_1
                clear hi117_1 hl117_1
                replace p117 := eq_true p117
                replace q117 := eq_true q117
                have ea_ := Option.some.inj (hx115_1.symm.trans hx117_1)
                injection ea_ with ea_ en_ ec_
                subst ea_
                subst ec_
                clear en_
                have p118 : 0 ≤ (x12_3 : Int) := of_decide_eq_true (by first | (with_reducible assumption) | assumption)
                have q118 : x12_3 < (t103.length : Int) := of_decide_eq_true (by first | (with_reducible assumption) | assumption)
                obtain ⟨ad118, A118_1, c118_1, e118, hx118_0, hx118_1, hx118_2, hl118_1, hi118_1⟩ := at_T44 (Kd.N_reads' HO_7.out).2.2 x12_3 p118 q118
                obtain rfl : ad114 = ad118 := (by injection e118)
                obtain ⟨ce118, hce118, hMe118, hcc118⟩ := Kd.N_get HO_7.out z44 x12_3 p118 (by first | exact q118 | exact of_decide_eq_true (by first | (with_reducible assumption) | assumption) | (have e_ := (Kd.N_reads' HO_7.out).1; omega))
                obtain ⟨ua118_1, uc118_1, rfl, ul118_1, ge118_1⟩ := k44_openF hMe118
                have hv118_1 := hcc118 1 _ rfl
                rw [add_field _ _ 1 (by omega)] at hv118_1
                replace hv118_1 := Option.some.inj (hv118_1.symm.trans hx118_1)
                injection hv118_1 with hva_ hvn_ hvc_
                rw [hva_] at ge118_1
                rw [hvc_] at ul118_1
                have HL118_1 := Aside0.mk (show Kd.V (Kd.int .u8) 5 _ w.heap.size _ _ ((rd_T44 t103 x12_3).f1) from Kd.V_mk ul118_1 ge118_1)
                clear hva_ hvn_ hvc_ ge118_1 ul118_1
                clear hcc118 hce118
                have HR118_1 := Aside0.mk hi118_1
                have HC118_1 := Aside0.mk hl118_1
                clear hi118_1 hl118_1
                replace p118 := eq_true p118
                replace q118 := eq_true q118
                have ea_ := Option.some.inj (hx114_1.symm.trans hx118_1)
                injection ea_ with ea_ en_ ec_
                subst ea_
                subst ec_
                clear en_
                have hcv30 := Kd.C_string (P := Tryd.prog) (A := A114_1) (c := c114_1) Tryd.underlying22 Tryd.underlying5 Tryd.underlying9 (by repeat (first | (with_reducible exact HR118_1.out) | (with_reducible refine Kd.C_alloc ?_ _) | (with_reducible refine Kd.C_drewN ?_ _) | (with_reducible refine Kd.C_drew ?_) | exact HR118_1.out))
                have hcv30b := fun (n_ : Nat) => Kd.C_string (P := Tryd.prog) (A := A114_1) (c := c114_1) Tryd.underlying22 Tryd.underlying5 Tryd.underlying9 (Kd.C_drewN HR118_1.out n_)
                have p119 : 0 ≤ (x12_3 : Int) := of_decide_eq_true (by first | (with_reducible assumption) | assumption)
                have q119 : x12_3 < (t107.length : Int) := of_decide_eq_true (by first | (with_reducible assumption) | assumption)
                obtain ⟨ad119, A119_1, c119_1, e119, hx119_0, hx119_1, hx119_2, hl119_1, hi119_1⟩ := at_T44 (Kd.N_reads' HO_9.out).2.2 x12_3 p119 q119
                obtain rfl : ad115 = ad119 := (by injection e119)
                obtain ⟨ce119, hce119, hMe119, hcc119⟩ := Kd.N_get HO_9.out z44 x12_3 p119 (by first | exact q119 | exact of_decide_eq_true (by first | (with_reducible assumption) | assumption) | (have e_ := (Kd.N_reads' HO_9.out).1; omega))
                obtain ⟨ua119_1, uc119_1, rfl, ul119_1, ge119_1⟩ := k44_openF hMe119
                have hv119_1 := hcc119 1 _ rfl
                rw [add_field _ _ 1 (by omega)] at hv119_1
                replace hv119_1 := Option.some.inj (hv119_1.symm.trans hx119_1)
                injection hv119_1 with hva_ hvn_ hvc_
                rw [hva_] at ge119_1
                rw [hvc_] at ul119_1
                have HL119_1 := Aside0.mk (show Kd.V (Kd.int .u8) 5 _ w.heap.size _ _ ((rd_T44 t107 x12_3).f1) from Kd.V_mk ul119_1 ge119_1)
                clear hva_ hvn_ hvc_ ge119_1 ul119_1
                clear hcc119 hce119
                have HR119_1 := Aside0.mk hi119_1
                have HC119_1 := Aside0.mk hl119_1
                clear hi119_1 hl119_1
                replace p119 := eq_true p119
                replace q119 := eq_true q119
                have ea_ := Option.some.inj (hx115_1.symm.trans hx119_1)
                injection ea_ with ea_ en_ ec_
                subst ea_
                subst ec_
                clear en_
                have hcv31 := Kd.C_string (P := Tryd.prog) (A := A115_1) (c := c115_1) Tryd.underlying22 Tryd.underlying5 Tryd.underlying9 (by repeat (first | (with_reducible exact HR119_1.out) | (with_reducible refine Kd.C_alloc ?_ _) | (with_reducible refine Kd.C_drewN ?_ _) | (with_reducible refine Kd.C_drew ?_) | exact HR119_1.out))
                have hcv31b := fun (n_ : Nat) => Kd.C_string (P := Tryd.prog) (A := A115_1) (c := c115_1) Tryd.underlying22 Tryd.underlying5 Tryd.underlying9 (Kd.C_drewN HR119_1.out n_)
                go_wp2_with fail
                repeat (go_quiet (fail); try go_wp2_with (first | ((with_reducible refine gate_builtin (b := .append) (xs := #[.tmp 95, .tmp 96]) rfl ?_); (try (refine gate_guard (by rfl) ?_; dsimp only)); at_builtin; refine Kd.R_append Kd.bool (w0 := w) w.heap.size rfl (.tmp 95) (.tmp 96) 23 4 (.bool false) 1 rfl Tryd.underlying23 info4 rfl (by decide) (by omega) u11 x11_3 true [.bool true] (fun _ => True) (fun _ => False) rfl rfl ?aP (fun _ hk => hk.elim) ?aF ?aO ?aB ?aS ?aL ?_; (case aP => exact rfl); (case aB => exact (by repeat (first | (with_reducible first | exact HB.out | apply zC_ | apply zA_ | apply zB_) | exact HB.out))); (case aF => exact (fun _ _ => trivial)); (case aO => exact (by (with_reducible repeat (first | apply Kd.R_alloc | apply Kd.R_drewN | apply Kd.R_drew)); exact HO_11.out)); (case aS => exact (zF_ (by repeat (first | (with_reducible first | exact HB.out | apply zC_ | apply zA_ | apply zB_) | exact HB.out)))); (case aL => have := LMc27.out; omega); intro v121 w32 ho hb hg hat; rw [← Ny120.out] at ho; have n0_ := Aside0.mk (Kd.N_afterv (ok := (fun k_ => some k_ ≠ (.slice (some ad115) t107.length co29 : Value).ownBlock)) (by (with_reducible repeat (first | apply Kd.N_alloc | apply Kd.N_drewN | apply Kd.N_drew)); exact HO_7.out) hg hat); have n1_ := Aside0.mk (Kd.N_afterv (ok := (fun k_ => some k_ ≠ (.slice (some ad114) t103.length co28 : Value).ownBlock)) (by (with_reducible repeat (first | apply Kd.N_alloc | apply Kd.N_drewN | apply Kd.N_drew)); exact HO_9.out) hg hat); have n2_ := Aside0.mk (Kd.V_afterv (ok := (fun k_ => some k_ ≠ (.slice (some ad114) t103.length co28 : Value).ownBlock ∧ some k_ ≠ (.slice (some ad115) t107.length co29 : Value).ownBlock)) (by (with_reducible repeat (first | apply Kd.V_alloc | apply Kd.V_drewN | apply Kd.V_drew)); exact Kd.V_mono HL114_1.out (fun _ hk => ⟨⟨hk.2, hk.1.1⟩, hk.1.2⟩)) hg hat); have n3_ := Aside0.mk (Kd.V_afterv (ok := (fun k_ => some k_ ≠ (.slice (some ad114) t103.length co28 : Value).ownBlock ∧ some k_ ≠ (.slice (some ad115) t107.length co29 : Value).ownBlock)) (by (with_reducible repeat (first | apply Kd.V_alloc | apply Kd.V_drewN | apply Kd.V_drew)); exact Kd.V_mono HL115_1.out (fun _ hk => ⟨⟨hk.1.1, hk.2⟩, hk.1.2⟩)) hg hat); have n4_ := Aside0.mk (Kd.V_afterv (ok := (fun k_ => some k_ ≠ (.slice (some ad114) t103.length co28 : Value).ownBlock ∧ some k_ ≠ (.slice (some ad115) t107.length co29 : Value).ownBlock)) (by (with_reducible repeat (first | apply Kd.V_alloc | apply Kd.V_drewN | apply Kd.V_drew)); exact Kd.V_mono HL116_1.out (fun _ hk => ⟨⟨hk.2, hk.1.1⟩, hk.1.2⟩)) hg hat); have n5_ := Aside0.mk (Kd.V_afterv (ok := (fun k_ => some k_ ≠ (.slice (some ad114) t103.length co28 : Value).ownBlock ∧ some k_ ≠ (.slice (some ad115) t107.length co29 : Value).ownBlock)) (by (with_reducible repeat (first | apply Kd.V_alloc | apply Kd.V_drewN | apply Kd.V_drew)); exact Kd.V_mono HL117_1.out (fun _ hk => ⟨⟨hk.1.1, hk.2⟩, hk.1.2⟩)) hg hat); have n6_ := Aside0.mk (Kd.V_afterv (ok := (fun k_ => some k_ ≠ (.slice (some ad114) t103.length co28 : Value).ownBlock ∧ some k_ ≠ (.slice (some ad115) t107.length co29 : Value).ownBlock)) (by (with_reducible repeat (first | apply Kd.V_alloc | apply Kd.V_drewN | apply Kd.V_drew)); exact Kd.V_mono HL118_1.out (fun _ hk => ⟨⟨hk.2, hk.1.1⟩, hk.1.2⟩)) hg hat); have n7_ := Aside0.mk (Kd.V_afterv (ok := (fun k_ => some k_ ≠ (.slice (some ad114) t103.length co28 : Value).ownBlock ∧ some k_ ≠ (.slice (some ad115) t107.length co29 : Value).ownBlock)) (by (with_reducible repeat (first | apply Kd.V_alloc | apply Kd.V_drewN | apply Kd.V_drew)); exact Kd.V_mono HL119_1.out (fun _ hk => ⟨⟨hk.1.1, hk.2⟩, hk.1.2⟩)) hg hat); have n8_ := Aside0.mk (hb); have n9_ := Aside0.mk (ho); clear HO_7; clear HO_9; clear HL114_1; clear HL115_1; clear HL116_1; clear HL117_1; clear HL118_1; clear HL119_1; clear HB; clear HO_11; have HO_7 := n0_; have HO_9 := n1_; have HL114_1 := n2_; have HL115_1 := n3_; have HL116_1 := n4_; have HL117_1 := n5_; have HL118_1 := n6_; have HL119_1 := n7_; have HB := n8_; have HO122 := n9_; clear n0_ n1_ n2_ n3_ n4_ n5_ n6_ n7_ n8_ n9_; clear ho hb hg hat)))
                go_roundg k3
                case measure => have := HJ3.out; have := HJ11.out; have := HK3.out; omega
                case rel => exact ⟨(y120), (wrap64 (x12_3 + 1)), (by first | rfl | (simp; done) | (simp [*]; done)), H', ⟨by have := HJ3.out; have := HJ11.out; have := HK3.out; omega⟩, ⟨by (with_reducible repeat (first | apply Kd.N_alloc | apply Kd.N_drewN | apply Kd.N_drew)); exact HO_7.out⟩, ⟨by (with_reducible repeat (first | apply Kd.N_alloc | apply Kd.N_drewN | apply Kd.N_drew)); exact HO_9.out⟩, ⟨by (with_reducible repeat (first | apply Kd.R_alloc | apply Kd.R_drewN | apply Kd.R_drew)); exact HO122.out⟩, ⟨by repeat (first | (with_reducible first | exact HB.out | apply zC_ | apply zA_ | apply zB_) | exact HB.out)⟩⟩
               ·rw [if_neg c27] at H
                exact absurd H (by simp)
              ·rw [if_neg c26] at H
               exact absurd H (by simp)
             ·rw [if_neg c25] at H
              exact absurd H (by simp)
            ·rw [if_neg c24] at H
             exact absurd H (by simp)
           ·rw [if_neg c23] at H
            exact absurd H (by simp)
          ·rw [if_neg c22] at H
           exact absurd H (by simp)
         ·rw [if_neg c21] at H
          have c21b0 : decide (x12_3 < (t103.length : Int)) = false := decide_eq_false c21
          clear c21
          by_cases c41 : t106 = 0
          ·rw [if_pos c41] at H
           have c41b0 : (t106 == 0) = true := beq_iff_eq.mpr c41
           have c41b1 : (t106 != 0) = false := bne_eq_false_iff_eq.mpr c41
           clear c41
           have H' := Aside0.mk H
           clear H
           obtain ⟨Ao42, co42, eo42⟩ := Kd.N_slice HO_7.out
           subst eo42
           go_wp2
           go_loopg [13] k3 (fun kq v13 w' => ∃ (x7_4 : List (S44)) (x13_4 : Int), v13 = .int .i64 x13_4 ∧ Aside0 (wRb_.l1 kq a0 a1 l2 x7_4 x11_3 x13_4 = some r) ∧ Aside0 (kq ≤ k3) ∧ Aside0 (Kd.N k44 44 w' w.heap.size (fun k_ => some k_ ≠ (u11 : Value).ownBlock) (.slice Ao42 t103.length co42) x7_4) ∧ Aside0 (Kd.R Kd.bool 4 w' w.heap.size (fun _ => True) u11 x11_3) ∧ Aside0 (Below w.heap.size w w'))
           case atStart => exact ⟨(t103), (0), (by first | rfl | (simp; done) | (simp [*]; done)), H', ⟨Nat.le_refl _⟩, ⟨by (with_reducible repeat (first | apply Kd.N_alloc | apply Kd.N_drewN | apply Kd.N_drew)); exact Kd.N_mono HO_7.out (fun _ hk => hk.2)⟩, ⟨by (with_reducible repeat (first | apply Kd.R_alloc | apply Kd.R_drewN | apply Kd.R_drew)); exact HO_11.out⟩, ⟨by repeat (first | (with_reducible first | exact HB.out | apply zC_ | apply zA_ | apply zB_) | exact HB.out)⟩⟩
           case round =>
            clear H'
            try clear c1
            try clear p1
            try clear q1
            try clear hx1
            try clear c2
            try clear p2
            try clear hcv3
            try clear c4
            try clear c5
            try clear c6
            try clear p6
            try clear c7
            try clear c11
            try clear p11
            try clear q11
            try clear hx11
            try clear c15
            try clear c15b0
            try clear c15b1
            try clear c18
            try clear c21
            try clear c21b0
            try clear c22
            try clear c22b0
            try clear c23
            try clear c23b0
            try clear c24
            try clear c24b0
            try clear c24b1
            try clear c25
            try clear c25b0
            try clear c25b1
            try clear c26
            try clear c26b0
            try clear c26b1
            try clear c27
            try clear hcv30
            try clear hcv31
            try clear hcv35
            try clear hcv36
            try clear c41
            try clear c41b0
            try clear c41b1
            try clear hx114_0
            try clear hx114_1
            try clear hx114_2
            try clear hx115_0
            try clear hx115_1
            try clear hx115_2
            try clear hx116_0
            try clear hx116_1
            try clear hx116_2
            try clear hx117_0
            try clear hx117_1
            try clear hx117_2
            try clear hx118_0
            try clear hx118_1
            try clear hx118_2
            try clear hx119_0
            try clear hx119_1
            try clear hx119_2
            try clear p114
            try clear p115
            try clear p116
            try clear p117
            try clear p118
            try clear p119
            try clear p2
            try clear q114
            try clear q115
            try clear q116
            try clear q117
            try clear q118
            try clear q119
            obtain ⟨x7_4, x13_4, rfl, HA, HK4, HO_7, HO_11, HB⟩ := hrel
            have hl7_4 := (Kd.N_reads' HO_7.out).1
            rw [hl7_4] at HO_7
            (try simp only [hl7_4])
            (try simp only [hl7_4] at HO_11)
            cases gk with
            | zero => exact absurd HA.out (by simp [wRb_.l1])
            | succ k4 =>
             have H := HA.out
             clear HA
             simp only [wRb_.l1] at H
             by_cases c43 : x13_4 < a1
             ·rw [if_pos c43] at H
              have c43b0 : decide (x13_4 < a1) = true := decide_eq_true c43
              (try simp only [hl7_4] at c43b0)
              clear c43
              by_cases c44 : (x7_4.length : Int) = 0
              ·rw [if_pos c44] at H
               exact absurd H (by simp)
              ·rw [if_neg c44] at H
               have c44b0 : ((x7_4.length : Int) == 0) = false := beq_eq_false_iff_ne.mpr c44
               (try simp only [hl7_4] at c44b0)
               have c44b1 : ((x7_4.length : Int) != 0) = true := bne_iff_ne.mpr c44
               (try simp only [hl7_4] at c44b1)
               have c44b2 : ¬ (x7_4 = []) := fun h_ => c44 (by rw [h_]; rfl)
               (try simp only [hl7_4] at c44b2)
               obtain ⟨ji45, hji45⟩ : ∃ j_ : Int, (Int.tmod (wrap64 ((wrap64 (x13_4 * 3)) + (l2.length : Int))) (x7_4.length : Int)) = j_ := ⟨_, rfl⟩
               replace H : (if 0 ≤ (ji45) then (if (ji45) < (x7_4.length : Int) then (wRb_.l1 k4 a0 a1 l2 (x7_4.set ((ji45) : Int).toNat (⟨(rd_T44 x7_4 (ji45)).f0, (rd_T44 x7_4 (ji45)).f1, (((rd_T44 x7_4 (ji45)).f2) + 1) % 4294967296⟩ : S44)) x11_3 (wrap64 (x13_4 + 1))) else (none)) else (none)) = some r := by first | (rw [hji45] at H; exact H) | (simp only [hji45] at H ⊢; exact H)
               by_cases c46 : 0 ≤ (ji45)
               ·rw [if_pos c46] at H
                have c46b0 : decide (0 ≤ (ji45)) = true := decide_eq_true c46
                (try simp only [hl7_4] at c46b0)
                clear c46
                by_cases c47 : (ji45) < (x7_4.length : Int)
                ·rw [if_pos c47] at H
                 have c47b0 : decide ((ji45) < (x7_4.length : Int)) = true := decide_eq_true c47
                 (try simp only [hl7_4] at c47b0)
                 clear c47
                 obtain ⟨y125, hy125⟩ : ∃ y_ : List (S44), y_ = (x7_4.set ((ji45) : Int).toNat (⟨(rd_T44 x7_4 (ji45)).f0, (rd_T44 x7_4 (ji45)).f1, (((rd_T44 x7_4 (ji45)).f2) + 1) % 4294967296⟩ : S44)) := ⟨_, rfl⟩
                 replace H : (wRb_.l1 k4 a0 a1 l2 y125 x11_3 (wrap64 (x13_4 + 1))) = some r := by first | (rw [hy125]; with_reducible exact H) | (have H2_ := (Option.bind_some _ _).symm.trans H; rw [hy125]; with_reducible exact H2_) | (have H2_ := (Option.bind_some _ _).symm.trans H; with_reducible exact H2_) | with_reducible exact H | (rw [hy125]; exact H) | exact H
                 have Ny125 := Aside0.mk hy125
                 clear hy125
                 have H' := Aside0.mk H
                 clear H
                 have p124 : 0 ≤ ((ji45) : Int) := of_decide_eq_true (by first | (with_reducible assumption) | assumption)
                 have q124 : (ji45) < (x7_4.length : Int) := of_decide_eq_true (by first | (with_reducible assumption) | assumption)
                 obtain ⟨ad124, A124_1, c124_1, e124, hx124_0, hx124_1, hx124_2, hl124_1, hi124_1⟩ := at_T44 (Kd.N_reads' HO_7.out).2.2 (ji45) p124 q124
                 cases e124
                 obtain ⟨ce124, hce124, hMe124, hcc124⟩ := Kd.N_get HO_7.out z44 (ji45) p124 (by first | exact q124 | exact of_decide_eq_true (by first | (with_reducible assumption) | assumption) | (have e_ := (Kd.N_reads' HO_7.out).1; omega))
                 obtain ⟨ua124_1, uc124_1, rfl, ul124_1, ge124_1⟩ := k44_openF hMe124
                 have hv124_1 := hcc124 1 _ rfl
                 rw [add_field _ _ 1 (by omega)] at hv124_1
                 replace hv124_1 := Option.some.inj (hv124_1.symm.trans hx124_1)
                 injection hv124_1 with hva_ hvn_ hvc_
                 rw [hva_] at ge124_1
                 rw [hvc_] at ul124_1
                 have HL124_1 := Aside0.mk (show Kd.V (Kd.int .u8) 5 _ w.heap.size _ _ ((rd_T44 x7_4 (ji45)).f1) from Kd.V_mk ul124_1 ge124_1)
                 clear hva_ hvn_ hvc_ ge124_1 ul124_1
                 clear hcc124 hce124
                 have HR124_1 := Aside0.mk hi124_1
                 have HC124_1 := Aside0.mk hl124_1
                 clear hi124_1 hl124_1
                 replace p124 := eq_true p124
                 replace q124 := eq_true q124
                 have p48 : 0 ≤ ((ji45) : Int) := of_decide_eq_true (by first | (with_reducible assumption) | assumption)
                 have q48 : ((ji45) : Int) < ((x7_4.length : Int) : Int) := of_decide_eq_true (by first | (with_reducible assumption) | assumption)
                 obtain ⟨go48, co48, eo48, gb48, gl48, cl48, HG48⟩ := Kd.N_form HO_7.out (by omega)
                 (first | cases eo48 | (injection eo48 with ea_ en_ ec_; (first | subst ea_ | (injection ea_ with ea_; subst ea_)); subst ec_; clear en_))
                 have GB48 := Aside0.mk gb48
                 have GG48 := Aside0.mk HG48
                 clear gb48 gl48 HG48
                 (first | simp only [add_plain] at hx124_0 | skip)
                 (first | simp only [add_plain] at hx124_1 | skip)
                 (first | simp only [add_plain] at hx124_2 | skip)
                 obtain ⟨ce48, hcl48, hM48, hcc48, hfr48⟩ := Kd.N_elem HO_7.out z44 ((ji45) : Int) p48 q48
                 obtain ⟨ua48_1, uc48_1, rfl, ul48_1, ge48_1⟩ := k44_openF hM48
                 have hx48_0 : wr.cell? ⟨go48, ((ji45) : Int).toNat * 3, none⟩ = some (.int .i64 ((rd_T44 x7_4 (ji45)).f0)) := hcc48 0 _ rfl
                 have hx48_1 : wr.cell? ⟨go48, ((ji45) : Int).toNat * 3 + 1, none⟩ = some (.slice ua48_1 ((rd_T44 x7_4 (ji45)).f1).length uc48_1) := hcc48 1 _ rfl
                 have hx48_2 : wr.cell? ⟨go48, ((ji45) : Int).toNat * 3 + 2, none⟩ = some (.int .u32 ((rd_T44 x7_4 (ji45)).f2)) := hcc48 2 _ rfl
                 have hf48_0 : wr.frozen? ⟨go48, ((ji45) : Int).toNat * 3, none⟩ = false := hfr48 0
                 have hf48_1 : wr.frozen? ⟨go48, ((ji45) : Int).toNat * 3 + 1, none⟩ = false := hfr48 1
                 have hf48_2 : wr.frozen? ⟨go48, ((ji45) : Int).toNat * 3 + 2, none⟩ = false := hfr48 2
                 (try clear hcl48); (try clear hcc48); (try clear hfr48); (try clear hM48)
                 replace p48 := eq_true p48
                 replace q48 := eq_true q48
                 have HX49 := Aside0.mk (show Kd.N k44 44 wr w.heap.size (fun k_ => some k_ ≠ (u11 : Value).ownBlock) (.slice (some ⟨go48, 0, none⟩) x7_4.length co42) x7_4 from (by (with_reducible repeat (first | apply Kd.N_alloc | apply Kd.N_drewN | apply Kd.N_drew)); exact HO_7.out))
                 obtain ⟨ce49, hcl49, hM49, hcc49, hfr49⟩ := Kd.N_elem HX49.out z44 ((ji45) : Int) (of_decide_eq_true (by first | (with_reducible assumption) | assumption)) (by have h_ : ((ji45) : Int) < ((x7_4.length : Int) : Int) := of_decide_eq_true (by first | (with_reducible assumption) | assumption); first | exact h_ | (have e_ := (Kd.N_reads' HO_7.out).1; omega) | simpa using h_)
                 obtain ⟨ua49_1, uc49_1, rfl, ul49_1, ge49_1⟩ := k44_openF hM49
                 have HP49 := Kd.N_seg HX49.out ((ji45) : Int) (of_decide_eq_true (by first | (with_reducible assumption) | assumption)) (by have h_ : ((ji45) : Int) < ((x7_4.length : Int) : Int) := of_decide_eq_true (by first | (with_reducible assumption) | assumption); first | exact h_ | (have e_ := (Kd.N_reads' HO_7.out).1; omega) | simpa using h_) (seg := [.int .u32 ((((rd_T44 x7_4 (ji45)).f2) + 1) % 4294967296)]) (j := 2) hcl49 hcc49 (show 3 ≤ 3 from by decide) (x' := (⟨(rd_T44 x7_4 (ji45)).f0, (rd_T44 x7_4 (ji45)).f1, (((rd_T44 x7_4 (ji45)).f2) + 1) % 4294967296⟩ : S44)) (k44_mkF _ _ (⟨(rd_T44 x7_4 (ji45)).f0, (rd_T44 x7_4 (ji45)).f1, (((rd_T44 x7_4 (ji45)).f2) + 1) % 4294967296⟩ : S44) ul49_1 ge49_1) (fun _ hk => hk)
                 have hx49_2 := hcc49 2 _ rfl
                 (try simp only [show (k44).sz = 3 from rfl, Nat.mul_one, Nat.add_zero] at hx49_2)
                 have hf49_2 := hfr49 2
                 (try simp only [show (k44).sz = 3 from rfl, Nat.mul_one, Nat.add_zero] at hf49_2)
                 (try clear hcl49); (try clear hcc49); (try clear hfr49); (try clear hM49)
                 go_wp2_with (first | ((with_reducible refine gate_store (t := 42) (p := 120) rfl ?_); (try (rw [drewN_self wr]; generalize hq_ : World.drewN wr _ = wr; have n0_ := Aside0.mk (Kd.N_at hq_ HO_7.out); have n1_ := Aside0.mk (Kd.R_at hq_ HO_11.out); have n2_ := Aside0.mk (Kd.V_at hq_ HL124_1.out); have n3_ := Aside0.mk (below_at hq_ HB.out); clear hq_ HO_7 HO_11 HL124_1 HB; have HO_7 := n0_; have HO_11 := n1_; have HL124_1 := n2_; have HB := n3_; clear n0_ n1_ n2_ n3_; (try (have HX49 := Aside0.mk (show Kd.N k44 44 wr w.heap.size (fun k_ => some k_ ≠ (u11 : Value).ownBlock) (.slice (some ⟨go48, 0, none⟩) x7_4.length co42) x7_4 from (by (with_reducible repeat (first | apply Kd.N_alloc | apply Kd.N_drewN | apply Kd.N_drew)); exact HO_7.out)))); (try (obtain ⟨ce49, hcl49, hM49, hcc49, hfr49⟩ := Kd.N_elem HX49.out z44 ((ji45) : Int) (of_decide_eq_true (by first | (with_reducible assumption) | assumption)) (by have h_ : ((ji45) : Int) < ((x7_4.length : Int) : Int) := of_decide_eq_true (by first | (with_reducible assumption) | assumption); first | exact h_ | (have e_ := (Kd.N_reads' HO_7.out).1; omega) | simpa using h_))); (try (obtain ⟨ua49_1, uc49_1, rfl, ul49_1, ge49_1⟩ := k44_openF hM49)); (try (have HP49 := Kd.N_seg HX49.out ((ji45) : Int) (of_decide_eq_true (by first | (with_reducible assumption) | assumption)) (by have h_ : ((ji45) : Int) < ((x7_4.length : Int) : Int) := of_decide_eq_true (by first | (with_reducible assumption) | assumption); first | exact h_ | (have e_ := (Kd.N_reads' HO_7.out).1; omega) | simpa using h_) (seg := [.int .u32 ((((rd_T44 x7_4 (ji45)).f2) + 1) % 4294967296)]) (j := 2) hcl49 hcc49 (show 3 ≤ 3 from by decide) (x' := (⟨(rd_T44 x7_4 (ji45)).f0, (rd_T44 x7_4 (ji45)).f1, (((rd_T44 x7_4 (ji45)).f2) + 1) % 4294967296⟩ : S44)) (k44_mkF _ _ (⟨(rd_T44 x7_4 (ji45)).f0, (rd_T44 x7_4 (ji45)).f1, (((rd_T44 x7_4 (ji45)).f2) + 1) % 4294967296⟩ : S44) ul49_1 ge49_1) (fun _ hk => hk))); (try (have hx49_2 := hcc49 2 _ rfl)); (try (try simp only [show (k44).sz = 3 from rfl, Nat.mul_one, Nat.add_zero] at hx49_2)); (try (have hf49_2 := hfr49 2)); (try (try simp only [show (k44).sz = 3 from rfl, Nat.mul_one, Nat.add_zero] at hf49_2)); (try (try clear hcl49); (try clear hcc49); (try clear hfr49); (try clear hM49)))); refine store_event (t := 42) (p := 120) (v := ?vo_w50) (w1 := (wr.setCell ⟨go48, ((ji45) : Int).toNat * 3 + 2, none⟩ (.int .u32 ((((rd_T44 x7_4 (ji45)).f2) + 1) % 4294967296)))) ?hg ?ho ?hn ?hr ?_; (case ho => rfl); (case hg => rfl); (case hn => rfl); (case hr => first | (go_simp; done) | (go_simp; rfl)); intro w50 hw; have hg : wr.grownBy w50 (some go48) := (by rw [hw]; exact HP49.2); have hp_ : Kd.N k44 44 w50 w.heap.size (fun k_ => some k_ ≠ (u11 : Value).ownBlock) (.slice (some ⟨go48, 0, none⟩) x7_4.length co42) y125 := (by rw [hw, Ny125.out]; exact HP49.1); clear HP49; have n0_ := Aside0.mk (hp_); have n1_ := Aside0.mk (Kd.R_over' (v := (.slice (some ⟨go48, 0, none⟩) x7_4.length co42)) (by (with_reducible repeat (first | apply Kd.R_alloc | apply Kd.R_drewN | apply Kd.R_drew)); exact HO_11.out) (Kd.N_typed HO_7.out) (by decide) hg); have n2_ := Aside0.mk (Kd.V_afterv (v := (.slice (some ⟨go48, 0, none⟩) x7_4.length co42)) (v1 := (.slice (some ⟨go48, 0, none⟩) x7_4.length co42)) (ok := (fun k_ => some k_ ≠ (u11 : Value).ownBlock)) (by (with_reducible repeat (first | apply Kd.V_alloc | apply Kd.V_drewN | apply Kd.V_drew)); exact HL124_1.out) hg (.inl rfl)); have n3_ := Aside0.mk ((by rw [hw]; exact below_set (HB.out) GB48.out : Below w.heap.size w w50)); clear HO_7; clear HO_11; clear HL124_1; clear HB; have HO_7 := n0_; have HO_11 := n1_; have HL124_1 := n2_; have HB := n3_; clear n0_ n1_ n2_ n3_; clear hg hw hp_))
                 (try simp only [← hl7_4])
                 go_roundg k4
                 case measure => have := HJ3.out; have := HJ11.out; have := HK3.out; have := HK4.out; omega
                 case rel => exact ⟨(y125), (wrap64 (x13_4 + 1)), (by first | rfl | (simp; done) | (simp [*]; done)), (by first | exact H' | (simp only [hji45]; exact H')), ⟨by have := HJ3.out; have := HJ11.out; have := HK3.out; have := HK4.out; omega⟩, ⟨by (try simp only [hl7_4]); (with_reducible repeat (first | apply Kd.N_alloc | apply Kd.N_drewN | apply Kd.N_drew)); exact HO_7.out⟩, ⟨by (try simp only [hl7_4]); (with_reducible repeat (first | apply Kd.R_alloc | apply Kd.R_drewN | apply Kd.R_drew)); exact HO_11.out⟩, ⟨by repeat (first | (with_reducible first | exact HB.out | apply zC_ | apply zA_ | apply zB_) | exact HB.out)⟩⟩
                ·rw [if_neg c47] at H
                 exact absurd H (by simp)
               ·rw [if_neg c46] at H
                exact absurd H (by simp)
             ·rw [if_neg c43] at H
              have c43b0 : decide (x13_4 < a1) = false := decide_eq_false c43
              (try simp only [hl7_4] at c43b0)
              clear c43
              replace H := Option.bind_eq_some_iff.mp H
              obtain ⟨⟨t126, t129⟩, A510, H⟩ := H
              replace H : (if t129 = 0 then (if (strOfNums t126).toList = (strOfNums l2).toList then ((mooringlaw23_awake.f).bind fun t130 => (some t130)) else (none)) else (none)) = some r := H
              have A51 := Aside0.mk A510
              clear A510
              by_cases c52 : t129 = 0
              ·rw [if_pos c52] at H
               have c52b0 : (t129 == 0) = true := beq_iff_eq.mpr c52
               (try simp only [hl7_4] at c52b0)
               have c52b1 : (t129 != 0) = false := bne_eq_false_iff_eq.mpr c52
               (try simp only [hl7_4] at c52b1)
               clear c52
               by_cases c53 : (strOfNums t126).toList = (strOfNums l2).toList
               ·rw [if_pos c53] at H
                have c53b0 : ((strOfNums t126).toList == (strOfNums l2).toList) = true := beq_iff_eq.mpr c53
                (try simp only [hl7_4] at c53b0)
                have c53b1 : ((strOfNums t126).toList != (strOfNums l2).toList) = false := bne_eq_false_iff_eq.mpr c53
                (try simp only [hl7_4] at c53b1)
                clear c53
                replace H := Option.bind_eq_some_iff.mp H
                obtain ⟨t130, A540, H⟩ := H
                replace H : (some t130) = some r := H
                have A54 := Aside0.mk A540
                clear A540
                obtain rfl := Option.some.inj H
                obtain ⟨Ao55, co55, eo55⟩ := Kd.R_slice HO_11.out
                subst eo55
                go_wp2_with (first | (go_at_call 20; (with_reducible refine (wOb_.calls k4 a0 a1 (l2.length : Int) (fun k_ => some k_ ≠ (.slice Ao55 x11_3.length co55 : Value).ownBlock) _ _ x7_4 _ _ x11_3 t126 t129 _ ?side1 ?side2 ?side3 A51.out).mono ?_); (case side1 => exact Kd.N_V (HO_7.out)); (case side2 => repeat (first | exact (Kd.R_reads' HO_11.out).2.2 | (with_reducible refine Kd.C_alloc ?_ _) | (with_reducible refine Kd.C_drewN ?_ _) | (with_reducible refine Kd.C_drew ?_))); (case side3 => exact (Kd.R_reads' HO_11.out).2.1); rintro e w56 ⟨v127, rfl, ho0, hb⟩; have n0_ := Aside0.mk (Kd.N_below (by (with_reducible repeat (first | apply Kd.N_alloc | apply Kd.N_drewN | apply Kd.N_drew)); exact HO_7.out) hb); have n1_ := Aside0.mk (Kd.R_below (by (with_reducible repeat (first | apply Kd.R_alloc | apply Kd.R_drewN | apply Kd.R_drew)); exact HO_11.out) hb); have n2_ := Aside0.mk (Kd.V_lower (Kd.V_mono (ok' := fun k_ => some k_ ≠ (.slice Ao55 x11_3.length co55 : Value).ownBlock) ho0 (fun k_ hk_ => Or.elim hk_ (fun hs_ => hs_) (fun hn_ => (Kd.fresh' (Kd.R_lt (by (with_reducible repeat (first | apply Kd.R_alloc | apply Kd.R_drewN | apply Kd.R_drew)); exact HO_11.out)) k_ hn_)))) (zF_ (by repeat (first | (with_reducible first | exact HB.out | apply zC_ | apply zA_ | apply zB_) | exact HB.out)))); have n3_ := Aside0.mk (zE_ (by repeat (first | (with_reducible first | exact HB.out | apply zC_ | apply zA_ | apply zB_) | exact HB.out)) hb); clear HO_7; clear HO_11; clear HB; have HO_7 := n0_; have HO_11 := n1_; have HO128 := n2_; have HB := n3_; clear n0_ n1_ n2_ n3_; (try clear hb); (try clear hb2); (try clear hk); (try clear hi); (try clear ho0); (first | have hcv57 := own_string (P := Tryd.prog) Tryd.underlying22 Tryd.underlying5 Tryd.underlying9 (Kd.own_of_R HO128.out) | have hcv57 := Kd.V_string (P := Tryd.prog) Tryd.underlying22 Tryd.underlying5 Tryd.underlying9 HO128.out); have hcv58 := Kd.C_string (P := Tryd.prog) (A := A2) (c := c2) Tryd.underlying22 Tryd.underlying5 Tryd.underlying9 (Kd.C_below HR2.out HB.out)) | (go_at_call 17; (with_reducible refine (mooringlaw23_awake.calls  t130 _ A54.out).mono ?_); rintro e w59 ⟨rfl, hb⟩; have n0_ := Aside0.mk (Kd.N_below (by (with_reducible repeat (first | apply Kd.N_alloc | apply Kd.N_drewN | apply Kd.N_drew)); exact HO_7.out) hb); have n1_ := Aside0.mk (Kd.R_below (by (with_reducible repeat (first | apply Kd.R_alloc | apply Kd.R_drewN | apply Kd.R_drew)); exact HO_11.out) hb); have n2_ := Aside0.mk (Kd.V_below (by (with_reducible repeat (first | apply Kd.V_alloc | apply Kd.V_drewN | apply Kd.V_drew)); exact HO128.out) hb); have n3_ := Aside0.mk (zE_ (by repeat (first | (with_reducible first | exact HB.out | apply zC_ | apply zA_ | apply zB_) | exact HB.out)) hb); clear HO_7; clear HO_11; clear HO128; clear HB; have HO_7 := n0_; have HO_11 := n1_; have HO128 := n2_; have HB := n3_; clear n0_ n1_ n2_ n3_; (try clear hb); (try clear hb2); (try clear hk); (try clear hi)))
                go_ret
                exact ⟨by first | rfl | (simp [errW_none, errW_some] <;> rfl) | (simp [*, errW_none, errW_some] <;> rfl), by repeat (first | (with_reducible first | exact HB.out | apply zC_ | apply zA_ | apply zB_) | exact HB.out)⟩
               ·rw [if_neg c53] at H
                exact absurd H (by simp)
              ·rw [if_neg c52] at H
               exact absurd H (by simp)
          ·rw [if_neg c41] at H
           have c41b0 : (t106 == 0) = false := beq_eq_false_iff_ne.mpr c41
           have c41b1 : (t106 != 0) = true := bne_iff_ne.mpr c41
           replace H := Option.bind_eq_some_iff.mp H
           obtain ⟨t123, A660, H⟩ := H
           replace H : (some t123) = some r := H
           have A66 := Aside0.mk A660
           clear A660
           obtain rfl := Option.some.inj H
           obtain ⟨Ao67, co67, eo67⟩ := Kd.N_slice HO_7.out
           subst eo67
           go_wp2_with (first | (go_at_call 17; (with_reducible refine (mooringlaw23_awake.calls  t123 _ A66.out).mono ?_); rintro e w68 ⟨rfl, hb⟩; have n0_ := Aside0.mk (Kd.N_below (by (with_reducible repeat (first | apply Kd.N_alloc | apply Kd.N_drewN | apply Kd.N_drew)); exact HO_7.out) hb); have n1_ := Aside0.mk (Kd.N_below (by (with_reducible repeat (first | apply Kd.N_alloc | apply Kd.N_drewN | apply Kd.N_drew)); exact HO_9.out) hb); have n2_ := Aside0.mk (Kd.R_below (by (with_reducible repeat (first | apply Kd.R_alloc | apply Kd.R_drewN | apply Kd.R_drew)); exact HO_11.out) hb); have n3_ := Aside0.mk (zE_ (by repeat (first | (with_reducible first | exact HB.out | apply zC_ | apply zA_ | apply zB_) | exact HB.out)) hb); clear HO_7; clear HO_9; clear HO_11; clear HB; have HO_7 := n0_; have HO_9 := n1_; have HO_11 := n2_; have HB := n3_; clear n0_ n1_ n2_ n3_; (try clear hb); (try clear hb2); (try clear hk); (try clear hi)))
           go_ret
           exact ⟨by first | rfl | (simp [errW_none, errW_some] <;> rfl) | (simp [*, errW_none, errW_some] <;> rfl), by repeat (first | (with_reducible first | exact HB.out | apply zC_ | apply zA_ | apply zB_) | exact HB.out)⟩
end Go.Proofs.YtnfgiamdmfkcjaaDoor.P
namespace Go.Proofs.YtnfgiamdmfkcjaaDoor.Red
open Go.RowKit Go.Proofs.YtnfgiamdmfkcjaaDoorW.PrintWords Go.Proofs.YtnfgiamdmfkcjaaDoor.Leaf Go.Proofs.YtnfgiamdmfkcjaaDoor.Gf Go.Proofs.YtnfgiamdmfkcjaaDoor.H Go.Proofs.YtnfgiamdmfkcjaaDoor.Mx Go.Proofs.YtnfgiamdmfkcjaaDoor.P
theorem code_Decode.f_oM (k m : Int) (hk : -9223372036854775808 ≤ k) (A : Mat) (hr : ∀ i, i < A.length → (row A i).length ≤ 140737488355327) (H : List Bool) : code_Decode.f k m (oM A) H = some (decR k m A H) := by
  unfold code_Decode.f
  rw [if_pos, unM_oM]
  refine ⟨bytes_oM A, hk, ?_⟩
  rw [List.all_eq_true]
  intro x hx
  obtain ⟨r, hr2, rfl⟩ := List.mem_map.1 hx
  obtain ⟨i, hi, rfl⟩ := List.mem_iff_getElem.1 hr2
  have e : row A i = A[i] := by unfold row; rw [List.getD_eq_getElem?_getD, List.getElem?_eq_getElem hi]; rfl
  rw [zG_, ← e]
  exact decide_eq_true (hr i hi)
theorem row_selM (A : Mat) (H : List Bool) (i : Nat) (hi : i < (selN H H.length).length) : row (selM A H) i = row A ((selN H H.length).getD i 0) := by
  unfold selM
  show ((selN H H.length).map _).getD i [] = _
  rw [List.getD_eq_getElem?_getD, List.getElem?_map, List.getD_eq_getElem?_getD, List.getElem?_eq_getElem hi]
  rfl
theorem row_take3 (A : Mat) (k i : Nat) (hi : i < k) : row (A.take k) i = row A i := by
  unfold row
  rw [List.getD_eq_getElem?_getD, List.getElem?_take_of_lt hi, List.getD_eq_getElem?_getD]
theorem getD_take (l : List Nat) (k i : Nat) (hi : i < k) : (l.take k).getD i 0 = l.getD i 0 := by
  rw [List.getD_eq_getElem?_getD, List.getElem?_take_of_lt hi, List.getD_eq_getElem?_getD]
/-- A product's row is told by the left matrix' row. -/
theorem row_mulM_eq {A A' C : Mat} {n n' m p : Nat} (hA : Reg A n m) (hA' : Reg A' n' m) (hC : Reg C m p) (hm : 0 < m) {i i' : Nat} (hi : i < n) (hi' : i' < n') (h : row A i = row A' i') : row (mulM A C) i = row (mulM A' C) i' := by
  refine ext0 (by rw [(mulM_reg hA hC hm).2 i hi, (mulM_reg hA' hC hm).2 i' hi']) fun j hj => ?_
  rw [(mulM_reg hA hC hm).2 i hi] at hj
  have h1 := el_mulM hA hC hm hi hj
  have h2 := el_mulM hA' hC hm hi' hj
  unfold el at h1 h2
  rw [h1, h2]
  unfold mm
  simp only [h]
theorem cauM_take {k m : Nat} : (cauM k m).take k = idM k := by
  have h1 : Reg ((cauM k m).take k) k k := ⟨by rw [List.length_take, (cauM_reg k m).1]; omega, fun i hi => by rw [row_take3 _ _ _ hi]; exact (cauM_reg k m).2 i (by omega)⟩
  refine mat_ext h1 (matF_reg k k I) fun i j hi hj => ?_
  rw [idM_eq, el_matF I hi hj]
  show at0 (row ((cauM k m).take k) i) j = _
  rw [row_take3 _ _ _ hi]
  show el (cauM k m) i j = _
  unfold cauM
  rw [el_matF (cau k m) (by omega) hj]
  unfold cau
  rw [if_pos hi]
theorem mulM_take {A C : Mat} {n m p k : Nat} (hA : Reg A n m) (hC : Reg C m p) (hm : 0 < m) (hk : k ≤ n) : (mulM A C).take k = mulM (A.take k) C := by
  have hA2 : Reg (A.take k) k m := reg_take hA hk
  refine mat_ext (reg_take (mulM_reg hA hC hm) hk) (mulM_reg hA2 hC hm) fun i j hi hj => ?_
  show at0 (row ((mulM A C).take k) i) j = at0 (row (mulM (A.take k) C) i) j
  rw [row_take3 _ _ _ hi, row_mulM_eq hA hA2 hC hm (by omega) hi (row_take3 _ _ _ hi).symm]
/-- What is decoded out of k shards of one length: a codeword, whose rows at those shards are they. -/
theorem decM_law {k m p : Nat} (hk : 1 ≤ k) (h : k + m ≤ 255) {H : List Bool} (hH : H.length = k + m) (hn : k ≤ (selN H H.length).length) {A : Mat} (hS : Reg (selM A H) (selN H H.length).length p) :
    ∃ Y : Mat, Reg Y k p ∧ decM k m A H = mulM (cauM k m) Y ∧ (decM k m A H).take k = Y ∧ ∀ i, i < k → row (decM k m A H) ((selN H H.length).getD i 0) = row A ((selN H H.length).getD i 0) := by
  obtain ⟨h1, hP, X, hX, hXr, e1, e2⟩ := pic_inverse hk h hH hn
  have hT : Reg ((selM A H).take k) k p := reg_take hS hn
  have hY := mulM_reg hXr hT hk
  refine ⟨mulM X ((selM A H).take k), hY, ?_, ?_, fun i hi => ?_⟩
  · unfold decM
    rw [hX, unM_oM]
  · unfold decM
    rw [hX, unM_oM, mulM_take (cauM_reg k m) hY hk (Nat.le_add_right k m), cauM_take, mulM_id hY hk]
  · have hlt : (selN H H.length).getD i 0 < k + m := by
      have := selN_lt (getD_mem (l := selN H H.length) (i := i) (by omega))
      omega
    unfold decM
    rw [hX, unM_oM]
    have hl : ((selN H H.length).take k).length = k := by rw [List.length_take]; omega
    have e3 : row (picM k m H) i = row (cauM k m) ((selN H H.length).getD i 0) := by
      unfold picM
      rw [row_rowsM _ _ _ (by omega), getD_take _ _ _ hi]
    rw [← row_mulM_eq hP (cauM_reg k m) hY hk hi hlt e3, ← mulM_assoc hP hXr hT hk hk, e1, mulM_id hT hk, row_take3 _ _ _ hi, row_selM _ _ _ (by omega)]
/-- Of a codeword: it itself. -/
theorem decM_code {k m p : Nat} (hk : 1 ≤ k) (h : k + m ≤ 255) {H : List Bool} (hH : H.length = k + m) (hn : k ≤ (selN H H.length).length) {A D : Mat} (hD : Reg D k p) (hA : ∀ i, i < k + m → H.getD i false = true → row A i = row (mulM (cauM k m) D) i) :
    decM k m A H = mulM (cauM k m) D := by
  obtain ⟨h1, hP, X, hX, hXr, e1, e2⟩ := pic_inverse hk h hH hn
  have hlt : ∀ i, i < (selN H H.length).length → (selN H H.length).getD i 0 < k + m ∧ H.getD ((selN H H.length).getD i 0) false = true := fun i hi => by
    have hm := getD_mem (l := selN H H.length) (i := i) hi
    refine ⟨?_, (List.mem_filter.1 hm).2⟩
    have := selN_lt hm
    omega
  have hT : (selM A H).take k = mulM (picM k m H) D := by
    have hC := mulM_reg (cauM_reg k m) hD hk
    have hr : ∀ i, i < k → row ((selM A H).take k) i = row (mulM (picM k m H) D) i := fun i hi => by
      have hl : ((selN H H.length).take k).length = k := by rw [List.length_take]; omega
      have e3 : row (picM k m H) i = row (cauM k m) ((selN H H.length).getD i 0) := by
        unfold picM
        rw [row_rowsM _ _ _ (by omega), getD_take _ _ _ hi]
      have hh := hlt i (by omega)
      rw [row_take3 _ _ _ hi, row_selM _ _ _ (by omega), hA _ hh.1 hh.2, row_mulM_eq hP (cauM_reg k m) hD hk hi hh.1 e3]
    have hR := mulM_reg hP hD hk
    refine mat_ext (n := k) (m := p) ⟨by rw [List.length_take, selM_length]; omega, fun i hi => by rw [hr i hi]; exact hR.2 i hi⟩ hR fun i j hi hj => ?_
    show at0 _ _ = at0 _ _
    rw [hr i hi]
  unfold decM
  rw [hX, unM_oM, hT, ← mulM_assoc hXr hP hD hk hk, e2, mulM_id hD hk]
end Go.Proofs.YtnfgiamdmfkcjaaDoor.Red
namespace Go.Proofs.YtnfgiamdmfkcjaaDoor.P
open Go.Proofs.YtnfgiamdmfkcjaaDoor.H
open Go.Proofs.YtnfgiamdmfkcjaaDoor.Leaf
open Go.RowKit Go.Proofs.YtnfgiamdmfkcjaaDoorW.PrintWords Go.Proofs.YtnfgiamdmfkcjaaDoorW.PrintLast Go.Proofs.YtnfgiamdmfkcjaaDoorW.PrintMore
attribute [local go_sem] max2_int min2_int max_two min_two max_three min_three max_four min_four
def mooringlaw20_awake.f (k : Nat)  : Option (Bool) := if 20 ≤ 281474976710656 then ((stripe_Split.f 2 1 (List.replicate 20 0)).bind fun bt104 => ((stripe_Length.f k 2 33).bind fun bt108 => (if bt104.2 = 0 then (if (bt104.1.length : Int) = 3 then (if 0 < (bt104.1.length : Int) then (if ((rd_L1 bt104.1 0).length : Int) = 16 then (if bt108.2 = 0 then (some (bt108.1 == 32)) else (some false)) else (some false)) else (none)) else (some false)) else (some false)))) else (none)
theorem mooringlaw20_awake.mono : ∀ k, LeO (mooringlaw20_awake.f k ) (mooringlaw20_awake.f (k + 1) ) := by
 intro  k
 unfold mooringlaw20_awake.f
 repeat' first
  | (with_reducible exact stripe_Length.mono _ _ _)
  | (with_reducible exact LeO.refl _)
  | (with_reducible exact LeO.none _)
  | (with_reducible refine LeO.ite ?_ ?_)
  | (with_reducible refine LeO.bind ?_ (fun _ => ?_))
  | exact stripe_Length.mono _ _ _
  | exact LeO.none _
  | refine LeO.ite ?_ ?_
  | refine LeO.bind ?_ (fun _ => ?_)
end Go.Proofs.YtnfgiamdmfkcjaaDoor.P
namespace Go.Proofs.YtnfgiamdmfkcjaaDoor.P
open Go.Proofs.YtnfgiamdmfkcjaaDoor.Leaf
open Go.RowKit Go.Proofs.YtnfgiamdmfkcjaaDoorW.PrintWords Go.Proofs.YtnfgiamdmfkcjaaDoorW.PrintLast Go.Proofs.YtnfgiamdmfkcjaaDoorW.PrintMore
attribute [local go_sem] max2_int min2_int max_two min_two max_three min_three max_four min_four
def mooringlaw20_light.f (a0 : Int) (a1 : Int) : Option (Bool) := (mooringref03_Code.f a0 a1).bind fun t101 => (if t101 = true then (some (decide ((wrap64 (a0 * (wrap64 (a0 + a1)))) ≤ 400))) else (some true))
end Go.Proofs.YtnfgiamdmfkcjaaDoor.P
